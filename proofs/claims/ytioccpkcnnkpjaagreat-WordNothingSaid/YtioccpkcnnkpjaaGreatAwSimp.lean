/-
  What the walk reckons by.
-/
import Derived.Test.YtioccpkcnnkpjaaGreatAwCall
namespace Go.Aw
set_option maxRecDepth 100000
set_option linter.unusedSimpArgs false
set_option linter.unusedVariables false
open Go

attribute [go_sem] aops aop aop1 isVal isVal0 isX aextra rowsK rowsT nilness zrow aval guardOf dstOk known AS.ev AS.put lk cv AV.tag callOf avLoad avLookup AS.esOf avField avFieldAddr fieldOf avIndexAddr avIndex avConvert avLen avSlice AS.bnd AS.cur nilAV abin2 abin abinI abinS aun avCall aeff fillL putL hget hset fresh top AV.cells AV.cellsOk AV.leaf AV.toD toDs toRows apart psize TD.agg ares one RetK thenK blockK slotsFrom cxOf

@[go_sem] theorem alike_int (k : IntKind) (n : Int) : alike (.int k) (.int k n) = true := by simp [alike]
@[go_sem] theorem alike_str (l : List UInt8) : alike .str (.str l) = true := rfl
@[go_sem] theorem alike_bool (b : Bool) : alike .bool (.bool b) = true := rfl
theorem take_all_map {α β : Type} (g : α → β) (l : List α) : (l.map g).take l.length = l.map g := List.take_of_length_le (by simp)
theorem take_all {α : Type} (l : List α) : l.take l.length = l := List.take_of_length_le (Nat.le_refl _)
@[go_sem] theorem isB_bool (b : Bool) : (AV.d (.bool b)).isB = true := rfl
@[go_sem] theorem toB_bool (b : Bool) : (AV.d (.bool b)).toB = b := rfl
theorem bif_or (a b : Bool) : (bif a then true else b) = (a || b) := by cases a <;> rfl
theorem bif_and (a b : Bool) : (bif a then b else false) = (a && b) := by cases a <;> rfl

attribute [go_sem] cond_true cond_false bif_or bif_and List.map_cons List.map_nil List.zip_cons_cons List.zip_nil_left List.cons_append List.nil_append List.append_nil List.all_cons List.all_nil List.length_cons List.length_nil List.getElem?_cons_zero List.getElem?_cons_succ List.getD_cons_zero List.getD_cons_succ List.drop_zero List.drop_succ_cons List.take_zero List.take_succ_cons List.take_nil List.drop_nil List.set_cons_zero List.set_cons_succ
  List.replicate_zero List.replicate_succ List.flatten_cons List.flatten_nil List.range_succ List.size_toArray Option.bind_some Option.map_some Option.getD_some Bool.and_true Bool.true_and Bool.and_self Bool.false_and Bool.and_false true_implies false_implies and_true true_and and_self if_true if_false Option.some.injEq Prod.mk.injEq beq_self_eq_true beq_true beq_false ne_eq not_false_eq_true not_true_eq_false reduceCtorEq Option.isSome_some Option.isSome_none List.getElem?_toArray Option.map_none Option.bind_none Option.getD_none Bool.not_true Bool.not_false Bool.false_eq_true Bool.or_true Bool.true_or Bool.or_false Bool.false_or decide_true decide_false imp_self implies_true Bool.not_eq_true' Bool.not_eq_false'

end Go.Aw
