/- A move, as plain data: what it says, hears, and is given up. -/
import Derived.Test.YtjamhceghciboaaAid
namespace Go.Proofs.Ytjamhceghciboaa
open Go.RowKit

structure MoveS where
  num : Int
  epo : Int
  sh : Int
  fr : Int
  to : Int
  ph : Int
  ver : Int
  txt : ByteArray

/-- the code's object -/
def MoveS.cells (m : MoveS) : Array Value := #[.int .i64 m.num, .int .i64 m.epo, .int .i64 m.sh, .int .i64 m.fr, .int .i64 m.to, .int .i64 m.ph, .int .i64 m.ver, .string m.txt]
/-- the reference's value -/
def MoveS.ref (m : MoveS) : Array Value := #[.int .i64 m.num, .int .i64 m.epo, .int .i64 m.ph, .int .i64 m.ver, .int .i64 m.sh, .int .i64 m.fr, .int .i64 m.to, .string m.txt]
/-- a message of which the rest is zero -/
def msgOf (kind sh ep n ver : Int) (txt : ByteArray) : Array Value :=
  #[.int .i64 kind, .int .i64 sh, .int .i64 ep, .int .i64 0, .int .i64 0, .int .i64 n, .int .i64 ver, .int .i64 0, .int .i64 0, .int .i64 0, .slice none 0 0, .int .i64 0, .int .i64 0, .bool false, .slice none 0 0, .string txt]

def MoveS.saysTo (m : MoveS) : Int := if m.ph = 1 ∨ m.ph = 3 ∨ m.ph = 5 ∨ m.ph = 8 then m.fr else if m.ph = 2 ∨ m.ph = 4 ∨ m.ph = 7 then m.to else -1
def MoveS.saysKind (m : MoveS) : Int := if m.ph = 1 then 7 else if m.ph = 2 then 9 else if m.ph = 3 then 11 else if m.ph = 4 then 13 else if m.ph = 5 then 15 else if m.ph = 7 then 15 else if m.ph = 8 then 17 else 0
def MoveS.saysOk (m : MoveS) : Bool := decide (m.ph = 1 ∨ m.ph = 2 ∨ m.ph = 3 ∨ m.ph = 4 ∨ m.ph = 5 ∨ m.ph = 7 ∨ m.ph = 8)
def MoveS.saysMsg (m : MoveS) : Array Value :=
  if m.saysOk = true then msgOf m.saysKind m.sh (if m.ph = 4 ∨ m.ph = 8 then m.epo else 0) m.num (if m.ph = 3 then m.ver else 0) (if m.ph = 2 ∨ m.ph = 4 then m.txt else ⟨#[]⟩)
  else msgOf 0 0 0 0 0 ⟨#[]⟩
theorem MoveS.ways (m : MoveS) : m.ph = 1 ∨ m.ph = 2 ∨ m.ph = 3 ∨ m.ph = 4 ∨ m.ph = 5 ∨ m.ph = 7 ∨ m.ph = 8 ∨ (m.ph ≠ 1 ∧ m.ph ≠ 2 ∧ m.ph ≠ 3 ∧ m.ph ≠ 4 ∧ m.ph ≠ 5 ∧ m.ph ≠ 7 ∧ m.ph ≠ 8) := by omega
end Go.Proofs.Ytjamhceghciboaa
