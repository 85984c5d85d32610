/- The plain mathematics of whole numbers that go round: what the code's and the document's functions compute. No program here. -/
import Derived.WalkKit
import Derived.Lib.Hide
namespace Go.Proofs.YtdcpbjpghgbbiaaDoor
open Go.RowKit

/-- A value: its kind and its number. -/
def V (p : Int × Int) : Value := .agg #[.int .i64 p.1, .int .i64 p.2]
def s32 (n : Int) : Int := IntKind.i32.wrap n
def s64 (n : Int) : Int := IntKind.i64.wrap n

/-- May a value be? -/
def mayB (p : Int × Int) : Bool := (p.1 == 2) || ((p.1 == 1) && decide (-2147483648 ≤ p.2) && decide (p.2 ≤ 2147483647))
/-- What Wrap makes. -/
def wrapV (k n : Int) : Int × Int := if k = 1 then (1, s32 n) else if k = 2 then (2, n) else (0, 0)
/-- A value's bits as a number from nought. -/
def low (p : Int × Int) : Int := if p.1 = 1 then p.2 % 4294967296 else p.2 % 18446744073709551616
def flagV (b : Bool) : Int × Int := if b then (1, 1) else (1, 0)
def inB (n a b : Int) : Bool := decide (a ≤ n) && decide (n ≤ b)
/-- An instruction's kind, and what it would be of I32. -/
def ofV (op : Int) : Int × Int :=
  if inB op 69 79 || inB op 103 120 then (1, op)
  else if inB op 80 90 then (2, op - 80 + 69)
  else if inB op 121 138 then (2, op - 121 + 103)
  else (0, 0)
/-- What it takes, what it makes, whether it is one. -/
def kindsV (op : Int) : List Int × Int × Bool :=
  if op = 167 then ([2], 1, true)
  else if op = 172 ∨ op = 173 then ([1], 2, true)
  else
    let k := (ofV op).1
    let l := (ofV op).2
    if k = 0 then ([], 0, false)
    else if l = 69 then ([k], 1, true)
    else if inB l 70 79 then ([k, k], 1, true)
    else if inB l 103 105 then ([k], k, true)
    else ([k, k], k, true)
end Go.Proofs.YtdcpbjpghgbbiaaDoor
