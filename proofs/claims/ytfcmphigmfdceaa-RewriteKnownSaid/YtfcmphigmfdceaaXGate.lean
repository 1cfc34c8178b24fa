/- Two gates: an operation's shape is asked, the goal stays as it is. (So a claim needs no more of the print's words than it uses.) -/
import Derived.Test.YtfcmphigmfdceaaWWords
namespace Go.Proofs.YtfcmphigmfdceaaW.PrintMore
section
variable {P : Program} {ops : Array Oper} {rest : List Oper} {o : Oper} {a : Act} {Q : Exit → Act → World → Prop} {W : World}
theorem gate_callee {f : FuncId} {xs : Array Operand} {ts : Array TypeId} (_shape : o.op = .call { callee := .value (.func f), args := xs, argTypes := ts }) (goal : wpList P ops Q (o :: rest) a W) : wpList P ops Q (o :: rest) a W := goal
theorem gate_builtin {b : Builtin} {xs : Array Operand} {ts : Array TypeId} (_shape : o.op = .call { callee := .builtin b, args := xs, argTypes := ts }) (goal : wpList P ops Q (o :: rest) a W) : wpList P ops Q (o :: rest) a W := goal
end
end Go.Proofs.YtfcmphigmfdceaaW.PrintMore
