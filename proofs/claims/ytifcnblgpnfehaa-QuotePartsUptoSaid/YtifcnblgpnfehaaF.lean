/-
  Does a text begin with another one? For the seat Ytifcnblgpnfehaa.
-/
import Derived.Test.YtifcnblgpnfehaaX4
import Derived.Test.YtifcnblgpnfehaaB
set_option linter.unusedVariables false
set_option linter.unusedSimpArgs false
namespace Go.Proofs.Ytifcnblgpnfehaa.B
open Go.RowKit Go.Proofs.Ytifcnblgpnfehaa.X Go.Proofs.YtifcnblgpnfehaaW.PrintWords Go.Proofs.YtifcnblgpnfehaaW.PrintLast

def pfxP (o t : List UInt8) : Bool := t.take o.length == o
theorem pfx_f (t op : ByteArray) : strings_HasPrefix.f t op = some (pfxP (by_ op) (by_ t)) := by
  have h1 := by_length t
  have h2 := by_length op
  unfold strings_HasPrefix.f stringslite_HasPrefix.f pfxP
  by_cases h : (t.size : Int) ≥ (op.size : Int)
  · rw [if_pos h, if_pos (by omega), if_pos (by omega), Option.bind_some, toList_by, toList_by, by_extract, List.drop_zero, h2]
  · rw [if_neg h, Option.bind_some]
    congr 1
    symm
    rw [beq_eq_false_iff_ne]
    intro e
    have := congrArg List.length e
    rw [List.length_take] at this
    omega
end Go.Proofs.Ytifcnblgpnfehaa.B
