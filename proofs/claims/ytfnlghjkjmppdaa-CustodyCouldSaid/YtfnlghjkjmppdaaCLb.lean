/-
  A region that draws its order and only reads: one walk in the order of its text; what is checked of its order is checked once.
-/
import Derived.Test.YtfnlghjkjmppdaaCLw
import Derived.Still
namespace Go.Proofs.Ytfnlghjkjmppdaa.PC
open Go.Proofs.YtfnlghjkjmppdaaW.PrintLast
/-- The bits of m, n of them. -/
def lsb (n m : Nat) : Array Bool := ((List.range n).map m.testBit).toArray
section
variable {P : Program} {ops : Array Oper} {w : World} {Q : Act → Prop} {o : Oper} {rest : List Oper} {a : Act}
theorem still_ {ops0 : Array Oper} {id : Nat} {R : Exit → Act → World → Prop} (hB : Region.lexB .any ops0 = true) (he : ops0 = ops) (hm : P.follows .mixedOrders = true)
    (h : wpStill P ops w.drew (fun a' => R .normal a' w.drew) ops.toList a) : (Code.region id ops true).wp P R a w := by
  subst he
  exact wp_region_still hm hB h
theorem st_on {v : Value} (hw : Region.wanted o (yielded ops a.tmps) = true) (hr : (execOp a.eval o).run P w = .ok (.value v) w) {a' : Act} (ha : a.put o.dst v = a') (h : wpStill P ops w Q rest a') : wpStill P ops w Q (o :: rest) a := by
  subst ha
  unfold wpStill
  rw [if_pos hw]
  unfold Oper.still
  rw [hr]
  exact ⟨rfl, h⟩
theorem st_off (hw : Region.wanted o (yielded ops a.tmps) = false) {a' : Act} (ha : a.put o.dst undef = a') (h : wpStill P ops w Q rest a') : wpStill P ops w Q (o :: rest) a := by
  subst ha
  unfold wpStill
  rw [if_neg (by rw [hw]; exact Bool.false_ne_true)]
  exact h
theorem st_call {v : Value} {f : FuncId} {fn : Func} {az : Array Operand} {ts : Array TypeId} (hw : Region.wanted o (yielded ops a.tmps) = true) (hf : P.funcs[f]? = some fn) (hname : (fn.name == "runtime.NumGoroutine") = false) (hb : fn.body.isSome = true) (args : Array Value)
    (hop : o.op = .call { callee := .value (.func f), args := az, argTypes := ts }) (hargs : az.map a.eval = args) (hc : Calls P f args w fun e w' => e = .returned v ∧ w = w') {a' : Act} (ha : a.put o.dst v = a') (h : wpStill P ops w Q rest a') : wpStill P ops w Q (o :: rest) a := by
  subst ha
  unfold wpStill
  rw [if_pos hw]
  have hrun : (execOp a.eval o).run P w = .ok (.enter f args) w := by
    have he := enters_ hf hname hb args w
    unfold execOp
    simp [hop, resolve, Deferred.ofValue, invoke, Act.eval, hargs, he]
  unfold Oper.still
  rw [hrun]
  exact ⟨rfl, v, hc.mono (fun e w' hh => ⟨hh.1, hh.2.symm⟩), h⟩
end
end Go.Proofs.Ytfnlghjkjmppdaa.PC
