/-
  No cell of these rows narrows 'for every input' (looked for: loops, veiled, ifaces, maps, wideKeys, modest, calm, conditions, laid).
  DERIVED. THE GIVEN ROWS OF THIS SEAT. 5 by the template 'for every input the law returns true; each argument reads behind the call as it read before'; 0 by the template 'total and deterministic' (their statements: YtjamhceghciboaaTotals.lean).
  GIVEN WITH THE SEED: the statements are not yours to turn. If you find one false, say at which input.
  Laid BY PROGRAM, IN A SANDBOX (cutbox-rows.mjs): the forced cells as the released guide's own fill.sh prints them over the translation af35348eb232ff4c… (all of the seat's roots in one cut). By AI agents, Wed Nov 11 2026. No macro, syntax, notation, axiom, sorry.
-/
import Derived.Test.YtjamhceghciboaaChecked
import GoSem.Claim
import GoSem.ClaimJoined
import GoSem.ClaimMapViews
import Derived.JoinedTies
import Derived.KernelRfl
namespace Go.Proofs.Ytjamhceghciboaa
/- THE CELL 'sum', in the pinned program and in every row, IS THE sha256 OF THE DUMP (.gsa) THAT YtjamhceghciboaaProg.lean LOADS. Nothing in Lean hashes anything: it is a label: what it is worth is what the hold of that sum in a sandbox is worth. -/
noncomputable def Try.pinned : Pinned := { name := "ytjamhceghciboaa", sum := "af35348eb232ff4c952e443738f0db99c6f7f41457f2031f7bb03f099ac6b426", checked := Try.checked }
namespace Rows
def none {H : Type} : Left H := { results := [], args := [] }

/-- 'ploverlaw16.MovePlays': WHATEVER THE INPUT: true; the input reads as it did. -/
def movePlaysSpec : ChangeSpec := { name := "movePlays", fn := fun _ => fun
  | [d1, d2, d3] => { results := [.lit (.bool true)], args := [d1, d2, d3] }
  | _ => none }
def movePlaysRow : OpenClaim := { program := "ytjamhceghciboaa", sum := "af35348eb232ff4c952e443738f0db99c6f7f41457f2031f7bb03f099ac6b426", func := "plover/ploverlaw16.MovePlays", spec := "movePlays", unfollowed := true, recurses := true, apart := false }
def MovePlaysSaid : Prop := movePlaysRow.holds Try.pinned (OpenSpec.ofChange movePlaysSpec)

/-- ITS FALSE NEIGHBOUR: 'it returns false'. Refute it at one input. -/
def movePlaysWrong : ChangeSpec := { name := "movePlays", fn := fun _ => fun
  | [d1, d2, d3] => { results := [.lit (.bool false)], args := [d1, d2, d3] }
  | _ => none }
def MovePlaysWrongFalsely : Prop := movePlaysRow.holds Try.pinned (OpenSpec.ofChange movePlaysWrong)

/-- 'ploverlaw16.MoveDone': WHATEVER THE INPUT: true; the input reads as it did. -/
def moveDoneSpec : ChangeSpec := { name := "moveDone", fn := fun _ => fun
  | [d1, d2, d3] => { results := [.lit (.bool true)], args := [d1, d2, d3] }
  | _ => none }
def moveDoneRow : OpenClaim := { program := "ytjamhceghciboaa", sum := "af35348eb232ff4c952e443738f0db99c6f7f41457f2031f7bb03f099ac6b426", func := "plover/ploverlaw16.MoveDone", spec := "moveDone", unfollowed := true, recurses := true, apart := false }
def MoveDoneSaid : Prop := moveDoneRow.holds Try.pinned (OpenSpec.ofChange moveDoneSpec)

/-- ITS FALSE NEIGHBOUR: 'it returns false'. Refute it at one input. -/
def moveDoneWrong : ChangeSpec := { name := "moveDone", fn := fun _ => fun
  | [d1, d2, d3] => { results := [.lit (.bool false)], args := [d1, d2, d3] }
  | _ => none }
def MoveDoneWrongFalsely : Prop := moveDoneRow.holds Try.pinned (OpenSpec.ofChange moveDoneWrong)

/-- 'ploverlaw16.MoveGiven': WHATEVER THE INPUT: true; the input reads as it did. -/
def moveGivenSpec : ChangeSpec := { name := "moveGiven", fn := fun _ => fun
  | [d1, d2, d3] => { results := [.lit (.bool true)], args := [d1, d2, d3] }
  | _ => none }
def moveGivenRow : OpenClaim := { program := "ytjamhceghciboaa", sum := "af35348eb232ff4c952e443738f0db99c6f7f41457f2031f7bb03f099ac6b426", func := "plover/ploverlaw16.MoveGiven", spec := "moveGiven", unfollowed := true, recurses := true, apart := false }
def MoveGivenSaid : Prop := moveGivenRow.holds Try.pinned (OpenSpec.ofChange moveGivenSpec)

/-- ITS FALSE NEIGHBOUR: 'it returns false'. Refute it at one input. -/
def moveGivenWrong : ChangeSpec := { name := "moveGiven", fn := fun _ => fun
  | [d1, d2, d3] => { results := [.lit (.bool false)], args := [d1, d2, d3] }
  | _ => none }
def MoveGivenWrongFalsely : Prop := moveGivenRow.holds Try.pinned (OpenSpec.ofChange moveGivenWrong)

/-- 'ploverlaw16.MoveNobody': WHATEVER THE INPUT: true; the input reads as it did. -/
def moveNobodySpec : ChangeSpec := { name := "moveNobody", fn := fun _ => fun
  | [d1, d2] => { results := [.lit (.bool true)], args := [d1, d2] }
  | _ => none }
def moveNobodyRow : OpenClaim := { program := "ytjamhceghciboaa", sum := "af35348eb232ff4c952e443738f0db99c6f7f41457f2031f7bb03f099ac6b426", func := "plover/ploverlaw16.MoveNobody", spec := "moveNobody", unfollowed := true, recurses := true, apart := false }
def MoveNobodySaid : Prop := moveNobodyRow.holds Try.pinned (OpenSpec.ofChange moveNobodySpec)

/-- ITS FALSE NEIGHBOUR: 'it returns false'. Refute it at one input. -/
def moveNobodyWrong : ChangeSpec := { name := "moveNobody", fn := fun _ => fun
  | [d1, d2] => { results := [.lit (.bool false)], args := [d1, d2] }
  | _ => none }
def MoveNobodyWrongFalsely : Prop := moveNobodyRow.holds Try.pinned (OpenSpec.ofChange moveNobodyWrong)

/-- 'ploverlaw16.MoveLate': WHATEVER THE INPUT: true; the input reads as it did. -/
def moveLateSpec : ChangeSpec := { name := "moveLate", fn := fun _ => fun
  | [d1, d2, d3] => { results := [.lit (.bool true)], args := [d1, d2, d3] }
  | _ => none }
def moveLateRow : OpenClaim := { program := "ytjamhceghciboaa", sum := "af35348eb232ff4c952e443738f0db99c6f7f41457f2031f7bb03f099ac6b426", func := "plover/ploverlaw16.MoveLate", spec := "moveLate", unfollowed := true, recurses := true, apart := false }
def MoveLateSaid : Prop := moveLateRow.holds Try.pinned (OpenSpec.ofChange moveLateSpec)

/-- ITS FALSE NEIGHBOUR: 'it returns false'. Refute it at one input. -/
def moveLateWrong : ChangeSpec := { name := "moveLate", fn := fun _ => fun
  | [d1, d2, d3] => { results := [.lit (.bool false)], args := [d1, d2, d3] }
  | _ => none }
def MoveLateWrongFalsely : Prop := moveLateRow.holds Try.pinned (OpenSpec.ofChange moveLateWrong)

/- THE SECOND FORM. 'bulk': how many values and letters a reading holds, each counted each time it is reached (what is shared counts as often as it is met; a slice's spare places count too). A statement '..UptoSaid' is the law's where the arguments, and the package variables that the reading takes, are together of bulk at most 1048576: NARROWER than '..Said'. Prove '..Said' where nothing that the law and all that it calls make is longer than what came in: it says more and counts as full. Else prove '..UptoSaid'. A law counts once. -/
mutual
def uptoBulk {H : Type} : DataW H → Nat
  | .lit (.string bytes) => bytes.length + 1
  | .lit _ => 1
  | .nil => 1
  | .ptr d => uptoBulk d + 1
  | .slice elems spare => uptoBulkAll elems + uptoBulkAll spare + 1
  | .agg parts => uptoBulkAll parts + 1
  | .iface _ d => uptoBulk d + 1
  | .map entries => uptoBulkEntries entries + 1
  | .held _ => 1
def uptoBulkAll {H : Type} : List (DataW H) → Nat
  | [] => 0
  | d :: r => uptoBulk d + uptoBulkAll r
def uptoBulkEntries {H : Type} : List (Lit × DataW H) → Nat
  | [] => 0
  | x :: r => uptoBulkEntry x + uptoBulkEntries r
def uptoBulkEntry {H : Type} : Lit × DataW H → Nat
  | (.string bytes, d) => bytes.length + uptoBulk d + 1
  | (_, d) => uptoBulk d + 1
 end
def uptoSmall : (H : Type) → List (DataW H) → Bool := fun _ ds => decide (uptoBulkAll ds ≤ 1048576)
def OpenSpec.upto (s : _root_.Go.ChangeSpec) : _root_.Go.OpenSpec := { _root_.Go.OpenSpec.ofChange s with cond := some uptoSmall }

/-- 'ploverlaw16.MovePlays', WHERE WHAT IT READS IS OF BULK AT MOST 1048576: true; the input reads as it did. -/
def movePlaysUptoRow : OpenClaim := { program := "ytjamhceghciboaa", sum := "af35348eb232ff4c952e443738f0db99c6f7f41457f2031f7bb03f099ac6b426", func := "plover/ploverlaw16.MovePlays", spec := "movePlays", unfollowed := true, recurses := true, apart := false, narrowed := true }
def MovePlaysUptoSaid : Prop := movePlaysUptoRow.holds Try.pinned (OpenSpec.upto movePlaysSpec)

/-- 'ploverlaw16.MoveDone', WHERE WHAT IT READS IS OF BULK AT MOST 1048576: true; the input reads as it did. -/
def moveDoneUptoRow : OpenClaim := { program := "ytjamhceghciboaa", sum := "af35348eb232ff4c952e443738f0db99c6f7f41457f2031f7bb03f099ac6b426", func := "plover/ploverlaw16.MoveDone", spec := "moveDone", unfollowed := true, recurses := true, apart := false, narrowed := true }
def MoveDoneUptoSaid : Prop := moveDoneUptoRow.holds Try.pinned (OpenSpec.upto moveDoneSpec)

/-- 'ploverlaw16.MoveGiven', WHERE WHAT IT READS IS OF BULK AT MOST 1048576: true; the input reads as it did. -/
def moveGivenUptoRow : OpenClaim := { program := "ytjamhceghciboaa", sum := "af35348eb232ff4c952e443738f0db99c6f7f41457f2031f7bb03f099ac6b426", func := "plover/ploverlaw16.MoveGiven", spec := "moveGiven", unfollowed := true, recurses := true, apart := false, narrowed := true }
def MoveGivenUptoSaid : Prop := moveGivenUptoRow.holds Try.pinned (OpenSpec.upto moveGivenSpec)

/-- 'ploverlaw16.MoveNobody', WHERE WHAT IT READS IS OF BULK AT MOST 1048576: true; the input reads as it did. -/
def moveNobodyUptoRow : OpenClaim := { program := "ytjamhceghciboaa", sum := "af35348eb232ff4c952e443738f0db99c6f7f41457f2031f7bb03f099ac6b426", func := "plover/ploverlaw16.MoveNobody", spec := "moveNobody", unfollowed := true, recurses := true, apart := false, narrowed := true }
def MoveNobodyUptoSaid : Prop := moveNobodyUptoRow.holds Try.pinned (OpenSpec.upto moveNobodySpec)

/-- 'ploverlaw16.MoveLate', WHERE WHAT IT READS IS OF BULK AT MOST 1048576: true; the input reads as it did. -/
def moveLateUptoRow : OpenClaim := { program := "ytjamhceghciboaa", sum := "af35348eb232ff4c952e443738f0db99c6f7f41457f2031f7bb03f099ac6b426", func := "plover/ploverlaw16.MoveLate", spec := "moveLate", unfollowed := true, recurses := true, apart := false, narrowed := true }
def MoveLateUptoSaid : Prop := moveLateUptoRow.holds Try.pinned (OpenSpec.upto moveLateSpec)

end Rows
end Go.Proofs.Ytjamhceghciboaa
