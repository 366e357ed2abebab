/-
  No cell of these rows narrows 'for every input' (looked for: loops, veiled, ifaces, maps, wideKeys, modest, calm, conditions, laid).
  DERIVED. THE GIVEN ROWS OF THIS SEAT. 12 by the template 'for every input the law returns true; each argument reads behind the call as it read before'; 0 by the template 'total and deterministic' (their statements: YtpbkclopmiplpaaTotals.lean).
  GIVEN WITH THE SEED: the statements are not yours to turn. If you find one false, say at which input.
  Laid BY PROGRAM, IN A SANDBOX (cutbox-rows.mjs): the forced cells as the released guide's own fill.sh prints them over the translation 96caf81e4cca6b48… (all of the seat's roots in one cut). By AI agents, Wed Nov 11 2026. No macro, syntax, notation, axiom, sorry.
-/
import Derived.Test.YtpbkclopmiplpaaChecked
import GoSem.Claim
import GoSem.ClaimJoined
import GoSem.ClaimMapViews
import Derived.JoinedTies
import Derived.KernelRfl
namespace Go.Proofs.Ytpbkclopmiplpaa
/- THE CELL 'sum', in the pinned program and in every row, IS THE sha256 OF THE DUMP (.gsa) THAT YtpbkclopmiplpaaProg.lean LOADS. Nothing in Lean hashes anything: it is a label: what it is worth is what the hold of that sum in a sandbox is worth. -/
noncomputable def Try.pinned : Pinned := { name := "ytpbkclopmiplpaa", sum := "96caf81e4cca6b48c96c0b96990500b0e91e0795945c2725001b39664fa9a070", checked := Try.checked }
namespace Rows
def none {H : Type} : Left H := { results := [], args := [] }

/-- 'ploverlaw03.CrcSums': WHATEVER THE INPUT: true; the input reads as it did. -/
def crcSumsSpec : ChangeSpec := { name := "crcSums", fn := fun _ => fun
  | [d] => { results := [.lit (.bool true)], args := [d] }
  | _ => none }
def crcSumsRow : OpenClaim := { program := "ytpbkclopmiplpaa", sum := "96caf81e4cca6b48c96c0b96990500b0e91e0795945c2725001b39664fa9a070", func := "plover/ploverlaw03.CrcSums", spec := "crcSums", apart := false }
def CrcSumsSaid : Prop := crcSumsRow.holds Try.pinned (OpenSpec.ofChange crcSumsSpec)

/-- ITS FALSE NEIGHBOUR: 'it returns false'. Refute it at one input. -/
def crcSumsWrong : ChangeSpec := { name := "crcSums", fn := fun _ => fun
  | [d] => { results := [.lit (.bool false)], args := [d] }
  | _ => none }
def CrcSumsWrongFalsely : Prop := crcSumsRow.holds Try.pinned (OpenSpec.ofChange crcSumsWrong)

/-- 'ploverlaw03.CrcBurst': WHATEVER THE INPUT: true; the input reads as it did. -/
def crcBurstSpec : ChangeSpec := { name := "crcBurst", fn := fun _ => fun
  | [d1, d2, d3] => { results := [.lit (.bool true)], args := [d1, d2, d3] }
  | _ => none }
def crcBurstRow : OpenClaim := { program := "ytpbkclopmiplpaa", sum := "96caf81e4cca6b48c96c0b96990500b0e91e0795945c2725001b39664fa9a070", func := "plover/ploverlaw03.CrcBurst", spec := "crcBurst", apart := false }
def CrcBurstSaid : Prop := crcBurstRow.holds Try.pinned (OpenSpec.ofChange crcBurstSpec)

/-- ITS FALSE NEIGHBOUR: 'it returns false'. Refute it at one input. -/
def crcBurstWrong : ChangeSpec := { name := "crcBurst", fn := fun _ => fun
  | [d1, d2, d3] => { results := [.lit (.bool false)], args := [d1, d2, d3] }
  | _ => none }
def CrcBurstWrongFalsely : Prop := crcBurstRow.holds Try.pinned (OpenSpec.ofChange crcBurstWrong)

/-- 'ploverlaw03.CrcAdds': WHATEVER THE INPUT: true; the input reads as it did. -/
def crcAddsSpec : ChangeSpec := { name := "crcAdds", fn := fun _ => fun
  | [d1, d2, d3] => { results := [.lit (.bool true)], args := [d1, d2, d3] }
  | _ => none }
def crcAddsRow : OpenClaim := { program := "ytpbkclopmiplpaa", sum := "96caf81e4cca6b48c96c0b96990500b0e91e0795945c2725001b39664fa9a070", func := "plover/ploverlaw03.CrcAdds", spec := "crcAdds", apart := false }
def CrcAddsSaid : Prop := crcAddsRow.holds Try.pinned (OpenSpec.ofChange crcAddsSpec)

/-- ITS FALSE NEIGHBOUR: 'it returns false'. Refute it at one input. -/
def crcAddsWrong : ChangeSpec := { name := "crcAdds", fn := fun _ => fun
  | [d1, d2, d3] => { results := [.lit (.bool false)], args := [d1, d2, d3] }
  | _ => none }
def CrcAddsWrongFalsely : Prop := crcAddsRow.holds Try.pinned (OpenSpec.ofChange crcAddsWrong)

/-- 'ploverlaw05.VecDists': WHATEVER THE INPUT: true; the input reads as it did. -/
def vecDistsSpec : ChangeSpec := { name := "vecDists", fn := fun _ => fun
  | [d1, d2, d3] => { results := [.lit (.bool true)], args := [d1, d2, d3] }
  | _ => none }
def vecDistsRow : OpenClaim := { program := "ytpbkclopmiplpaa", sum := "96caf81e4cca6b48c96c0b96990500b0e91e0795945c2725001b39664fa9a070", func := "plover/ploverlaw05.VecDists", spec := "vecDists", unfollowed := true, recurses := true, apart := false }
def VecDistsSaid : Prop := vecDistsRow.holds Try.pinned (OpenSpec.ofChange vecDistsSpec)

/-- ITS FALSE NEIGHBOUR: 'it returns false'. Refute it at one input. -/
def vecDistsWrong : ChangeSpec := { name := "vecDists", fn := fun _ => fun
  | [d1, d2, d3] => { results := [.lit (.bool false)], args := [d1, d2, d3] }
  | _ => none }
def VecDistsWrongFalsely : Prop := vecDistsRow.holds Try.pinned (OpenSpec.ofChange vecDistsWrong)

/-- 'ploverlaw05.VecFar': WHATEVER THE INPUT: true; the input reads as it did. -/
def vecFarSpec : ChangeSpec := { name := "vecFar", fn := fun _ => fun
  | [d1, d2, d3] => { results := [.lit (.bool true)], args := [d1, d2, d3] }
  | _ => none }
def vecFarRow : OpenClaim := { program := "ytpbkclopmiplpaa", sum := "96caf81e4cca6b48c96c0b96990500b0e91e0795945c2725001b39664fa9a070", func := "plover/ploverlaw05.VecFar", spec := "vecFar", unfollowed := true, recurses := true, apart := false }
def VecFarSaid : Prop := vecFarRow.holds Try.pinned (OpenSpec.ofChange vecFarSpec)

/-- ITS FALSE NEIGHBOUR: 'it returns false'. Refute it at one input. -/
def vecFarWrong : ChangeSpec := { name := "vecFar", fn := fun _ => fun
  | [d1, d2, d3] => { results := [.lit (.bool false)], args := [d1, d2, d3] }
  | _ => none }
def VecFarWrongFalsely : Prop := vecFarRow.holds Try.pinned (OpenSpec.ofChange vecFarWrong)

/-- 'ploverlaw05.VecShift': WHATEVER THE INPUT: true; the input reads as it did. -/
def vecShiftSpec : ChangeSpec := { name := "vecShift", fn := fun _ => fun
  | [d1, d2] => { results := [.lit (.bool true)], args := [d1, d2] }
  | _ => none }
def vecShiftRow : OpenClaim := { program := "ytpbkclopmiplpaa", sum := "96caf81e4cca6b48c96c0b96990500b0e91e0795945c2725001b39664fa9a070", func := "plover/ploverlaw05.VecShift", spec := "vecShift", unfollowed := true, recurses := true, apart := false }
def VecShiftSaid : Prop := vecShiftRow.holds Try.pinned (OpenSpec.ofChange vecShiftSpec)

/-- ITS FALSE NEIGHBOUR: 'it returns false'. Refute it at one input. -/
def vecShiftWrong : ChangeSpec := { name := "vecShift", fn := fun _ => fun
  | [d1, d2] => { results := [.lit (.bool false)], args := [d1, d2] }
  | _ => none }
def VecShiftWrongFalsely : Prop := vecShiftRow.holds Try.pinned (OpenSpec.ofChange vecShiftWrong)

/-- 'ploverlaw15.RoadOrder': WHATEVER THE INPUT: true; the input reads as it did. -/
def roadOrderSpec : ChangeSpec := { name := "roadOrder", fn := fun _ => fun
  | [d] => { results := [.lit (.bool true)], args := [d] }
  | _ => none }
def roadOrderRow : OpenClaim := { program := "ytpbkclopmiplpaa", sum := "96caf81e4cca6b48c96c0b96990500b0e91e0795945c2725001b39664fa9a070", func := "plover/ploverlaw15.RoadOrder", spec := "roadOrder", apart := false }
def RoadOrderSaid : Prop := roadOrderRow.holds Try.pinned (OpenSpec.ofChange roadOrderSpec)

/-- ITS FALSE NEIGHBOUR: 'it returns false'. Refute it at one input. -/
def roadOrderWrong : ChangeSpec := { name := "roadOrder", fn := fun _ => fun
  | [d] => { results := [.lit (.bool false)], args := [d] }
  | _ => none }
def RoadOrderWrongFalsely : Prop := roadOrderRow.holds Try.pinned (OpenSpec.ofChange roadOrderWrong)

/-- 'ploverlaw06.BlockPlays': WHATEVER THE INPUT: true; the input reads as it did. -/
def blockPlaysSpec : ChangeSpec := { name := "blockPlays", fn := fun _ => fun
  | [d1, d2] => { results := [.lit (.bool true)], args := [d1, d2] }
  | _ => none }
def blockPlaysRow : OpenClaim := { program := "ytpbkclopmiplpaa", sum := "96caf81e4cca6b48c96c0b96990500b0e91e0795945c2725001b39664fa9a070", func := "plover/ploverlaw06.BlockPlays", spec := "blockPlays", unfollowed := true, recurses := true, apart := false }
def BlockPlaysSaid : Prop := blockPlaysRow.holds Try.pinned (OpenSpec.ofChange blockPlaysSpec)

/-- ITS FALSE NEIGHBOUR: 'it returns false'. Refute it at one input. -/
def blockPlaysWrong : ChangeSpec := { name := "blockPlays", fn := fun _ => fun
  | [d1, d2] => { results := [.lit (.bool false)], args := [d1, d2] }
  | _ => none }
def BlockPlaysWrongFalsely : Prop := blockPlaysRow.holds Try.pinned (OpenSpec.ofChange blockPlaysWrong)

/-- 'ploverlaw06.BlockSure': WHATEVER THE INPUT: true; the input reads as it did. -/
def blockSureSpec : ChangeSpec := { name := "blockSure", fn := fun _ => fun
  | [d1, d2, d3] => { results := [.lit (.bool true)], args := [d1, d2, d3] }
  | _ => none }
def blockSureRow : OpenClaim := { program := "ytpbkclopmiplpaa", sum := "96caf81e4cca6b48c96c0b96990500b0e91e0795945c2725001b39664fa9a070", func := "plover/ploverlaw06.BlockSure", spec := "blockSure", unfollowed := true, recurses := true, apart := false }
def BlockSureSaid : Prop := blockSureRow.holds Try.pinned (OpenSpec.ofChange blockSureSpec)

/-- ITS FALSE NEIGHBOUR: 'it returns false'. Refute it at one input. -/
def blockSureWrong : ChangeSpec := { name := "blockSure", fn := fun _ => fun
  | [d1, d2, d3] => { results := [.lit (.bool false)], args := [d1, d2, d3] }
  | _ => none }
def BlockSureWrongFalsely : Prop := blockSureRow.holds Try.pinned (OpenSpec.ofChange blockSureWrong)

/-- 'ploverlaw06.BlockKeeps': WHATEVER THE INPUT: true; the input reads as it did. -/
def blockKeepsSpec : ChangeSpec := { name := "blockKeeps", fn := fun _ => fun
  | [d1, d2, d3] => { results := [.lit (.bool true)], args := [d1, d2, d3] }
  | _ => none }
def blockKeepsRow : OpenClaim := { program := "ytpbkclopmiplpaa", sum := "96caf81e4cca6b48c96c0b96990500b0e91e0795945c2725001b39664fa9a070", func := "plover/ploverlaw06.BlockKeeps", spec := "blockKeeps", unfollowed := true, recurses := true, apart := false }
def BlockKeepsSaid : Prop := blockKeepsRow.holds Try.pinned (OpenSpec.ofChange blockKeepsSpec)

/-- ITS FALSE NEIGHBOUR: 'it returns false'. Refute it at one input. -/
def blockKeepsWrong : ChangeSpec := { name := "blockKeeps", fn := fun _ => fun
  | [d1, d2, d3] => { results := [.lit (.bool false)], args := [d1, d2, d3] }
  | _ => none }
def BlockKeepsWrongFalsely : Prop := blockKeepsRow.holds Try.pinned (OpenSpec.ofChange blockKeepsWrong)

/-- 'ploverlaw06.BlockNobody': WHATEVER THE INPUT: true; the input reads as it did. -/
def blockNobodySpec : ChangeSpec := { name := "blockNobody", fn := fun _ => fun
  | [d1, d2] => { results := [.lit (.bool true)], args := [d1, d2] }
  | _ => none }
def blockNobodyRow : OpenClaim := { program := "ytpbkclopmiplpaa", sum := "96caf81e4cca6b48c96c0b96990500b0e91e0795945c2725001b39664fa9a070", func := "plover/ploverlaw06.BlockNobody", spec := "blockNobody", unfollowed := true, recurses := true, apart := false }
def BlockNobodySaid : Prop := blockNobodyRow.holds Try.pinned (OpenSpec.ofChange blockNobodySpec)

/-- ITS FALSE NEIGHBOUR: 'it returns false'. Refute it at one input. -/
def blockNobodyWrong : ChangeSpec := { name := "blockNobody", fn := fun _ => fun
  | [d1, d2] => { results := [.lit (.bool false)], args := [d1, d2] }
  | _ => none }
def BlockNobodyWrongFalsely : Prop := blockNobodyRow.holds Try.pinned (OpenSpec.ofChange blockNobodyWrong)

/-- 'ploverlaw06.BlockTwice': WHATEVER THE INPUT: true; the input reads as it did. -/
def blockTwiceSpec : ChangeSpec := { name := "blockTwice", fn := fun _ => fun
  | [d1, d2, d3] => { results := [.lit (.bool true)], args := [d1, d2, d3] }
  | _ => none }
def blockTwiceRow : OpenClaim := { program := "ytpbkclopmiplpaa", sum := "96caf81e4cca6b48c96c0b96990500b0e91e0795945c2725001b39664fa9a070", func := "plover/ploverlaw06.BlockTwice", spec := "blockTwice", unfollowed := true, recurses := true, apart := false }
def BlockTwiceSaid : Prop := blockTwiceRow.holds Try.pinned (OpenSpec.ofChange blockTwiceSpec)

/-- ITS FALSE NEIGHBOUR: 'it returns false'. Refute it at one input. -/
def blockTwiceWrong : ChangeSpec := { name := "blockTwice", fn := fun _ => fun
  | [d1, d2, d3] => { results := [.lit (.bool false)], args := [d1, d2, d3] }
  | _ => none }
def BlockTwiceWrongFalsely : Prop := blockTwiceRow.holds Try.pinned (OpenSpec.ofChange blockTwiceWrong)

/- THE SECOND FORM. 'bulk': how many values and letters a reading holds, each counted each time it is reached (what is shared counts as often as it is met; a slice's spare places count too). A statement '..UptoSaid' is the law's where the arguments, and the package variables that the reading takes, are together of bulk at most 1048576: NARROWER than '..Said'. Prove '..Said' where nothing that the law and all that it calls make is longer than what came in: it says more and counts as full. Else prove '..UptoSaid'. A law counts once. -/
mutual
def uptoBulk {H : Type} : DataW H → Nat
  | .lit (.string bytes) => bytes.length + 1
  | .lit _ => 1
  | .nil => 1
  | .ptr d => uptoBulk d + 1
  | .slice elems spare => uptoBulkAll elems + uptoBulkAll spare + 1
  | .agg parts => uptoBulkAll parts + 1
  | .iface _ d => uptoBulk d + 1
  | .map entries => uptoBulkEntries entries + 1
  | .held _ => 1
def uptoBulkAll {H : Type} : List (DataW H) → Nat
  | [] => 0
  | d :: r => uptoBulk d + uptoBulkAll r
def uptoBulkEntries {H : Type} : List (Lit × DataW H) → Nat
  | [] => 0
  | x :: r => uptoBulkEntry x + uptoBulkEntries r
def uptoBulkEntry {H : Type} : Lit × DataW H → Nat
  | (.string bytes, d) => bytes.length + uptoBulk d + 1
  | (_, d) => uptoBulk d + 1
 end
def uptoSmall : (H : Type) → List (DataW H) → Bool := fun _ ds => decide (uptoBulkAll ds ≤ 1048576)
def OpenSpec.upto (s : _root_.Go.ChangeSpec) : _root_.Go.OpenSpec := { _root_.Go.OpenSpec.ofChange s with cond := some uptoSmall }

/-- 'ploverlaw03.CrcSums', WHERE WHAT IT READS IS OF BULK AT MOST 1048576: true; the input reads as it did. -/
def crcSumsUptoRow : OpenClaim := { program := "ytpbkclopmiplpaa", sum := "96caf81e4cca6b48c96c0b96990500b0e91e0795945c2725001b39664fa9a070", func := "plover/ploverlaw03.CrcSums", spec := "crcSums", apart := false, narrowed := true }
def CrcSumsUptoSaid : Prop := crcSumsUptoRow.holds Try.pinned (OpenSpec.upto crcSumsSpec)

/-- 'ploverlaw03.CrcBurst', WHERE WHAT IT READS IS OF BULK AT MOST 1048576: true; the input reads as it did. -/
def crcBurstUptoRow : OpenClaim := { program := "ytpbkclopmiplpaa", sum := "96caf81e4cca6b48c96c0b96990500b0e91e0795945c2725001b39664fa9a070", func := "plover/ploverlaw03.CrcBurst", spec := "crcBurst", apart := false, narrowed := true }
def CrcBurstUptoSaid : Prop := crcBurstUptoRow.holds Try.pinned (OpenSpec.upto crcBurstSpec)

/-- 'ploverlaw03.CrcAdds', WHERE WHAT IT READS IS OF BULK AT MOST 1048576: true; the input reads as it did. -/
def crcAddsUptoRow : OpenClaim := { program := "ytpbkclopmiplpaa", sum := "96caf81e4cca6b48c96c0b96990500b0e91e0795945c2725001b39664fa9a070", func := "plover/ploverlaw03.CrcAdds", spec := "crcAdds", apart := false, narrowed := true }
def CrcAddsUptoSaid : Prop := crcAddsUptoRow.holds Try.pinned (OpenSpec.upto crcAddsSpec)

/-- 'ploverlaw05.VecDists', WHERE WHAT IT READS IS OF BULK AT MOST 1048576: true; the input reads as it did. -/
def vecDistsUptoRow : OpenClaim := { program := "ytpbkclopmiplpaa", sum := "96caf81e4cca6b48c96c0b96990500b0e91e0795945c2725001b39664fa9a070", func := "plover/ploverlaw05.VecDists", spec := "vecDists", unfollowed := true, recurses := true, apart := false, narrowed := true }
def VecDistsUptoSaid : Prop := vecDistsUptoRow.holds Try.pinned (OpenSpec.upto vecDistsSpec)

/-- 'ploverlaw05.VecFar', WHERE WHAT IT READS IS OF BULK AT MOST 1048576: true; the input reads as it did. -/
def vecFarUptoRow : OpenClaim := { program := "ytpbkclopmiplpaa", sum := "96caf81e4cca6b48c96c0b96990500b0e91e0795945c2725001b39664fa9a070", func := "plover/ploverlaw05.VecFar", spec := "vecFar", unfollowed := true, recurses := true, apart := false, narrowed := true }
def VecFarUptoSaid : Prop := vecFarUptoRow.holds Try.pinned (OpenSpec.upto vecFarSpec)

/-- 'ploverlaw05.VecShift', WHERE WHAT IT READS IS OF BULK AT MOST 1048576: true; the input reads as it did. -/
def vecShiftUptoRow : OpenClaim := { program := "ytpbkclopmiplpaa", sum := "96caf81e4cca6b48c96c0b96990500b0e91e0795945c2725001b39664fa9a070", func := "plover/ploverlaw05.VecShift", spec := "vecShift", unfollowed := true, recurses := true, apart := false, narrowed := true }
def VecShiftUptoSaid : Prop := vecShiftUptoRow.holds Try.pinned (OpenSpec.upto vecShiftSpec)

/-- 'ploverlaw15.RoadOrder', WHERE WHAT IT READS IS OF BULK AT MOST 1048576: true; the input reads as it did. -/
def roadOrderUptoRow : OpenClaim := { program := "ytpbkclopmiplpaa", sum := "96caf81e4cca6b48c96c0b96990500b0e91e0795945c2725001b39664fa9a070", func := "plover/ploverlaw15.RoadOrder", spec := "roadOrder", apart := false, narrowed := true }
def RoadOrderUptoSaid : Prop := roadOrderUptoRow.holds Try.pinned (OpenSpec.upto roadOrderSpec)

/-- 'ploverlaw06.BlockPlays', WHERE WHAT IT READS IS OF BULK AT MOST 1048576: true; the input reads as it did. -/
def blockPlaysUptoRow : OpenClaim := { program := "ytpbkclopmiplpaa", sum := "96caf81e4cca6b48c96c0b96990500b0e91e0795945c2725001b39664fa9a070", func := "plover/ploverlaw06.BlockPlays", spec := "blockPlays", unfollowed := true, recurses := true, apart := false, narrowed := true }
def BlockPlaysUptoSaid : Prop := blockPlaysUptoRow.holds Try.pinned (OpenSpec.upto blockPlaysSpec)

/-- 'ploverlaw06.BlockSure', WHERE WHAT IT READS IS OF BULK AT MOST 1048576: true; the input reads as it did. -/
def blockSureUptoRow : OpenClaim := { program := "ytpbkclopmiplpaa", sum := "96caf81e4cca6b48c96c0b96990500b0e91e0795945c2725001b39664fa9a070", func := "plover/ploverlaw06.BlockSure", spec := "blockSure", unfollowed := true, recurses := true, apart := false, narrowed := true }
def BlockSureUptoSaid : Prop := blockSureUptoRow.holds Try.pinned (OpenSpec.upto blockSureSpec)

/-- 'ploverlaw06.BlockKeeps', WHERE WHAT IT READS IS OF BULK AT MOST 1048576: true; the input reads as it did. -/
def blockKeepsUptoRow : OpenClaim := { program := "ytpbkclopmiplpaa", sum := "96caf81e4cca6b48c96c0b96990500b0e91e0795945c2725001b39664fa9a070", func := "plover/ploverlaw06.BlockKeeps", spec := "blockKeeps", unfollowed := true, recurses := true, apart := false, narrowed := true }
def BlockKeepsUptoSaid : Prop := blockKeepsUptoRow.holds Try.pinned (OpenSpec.upto blockKeepsSpec)

/-- 'ploverlaw06.BlockNobody', WHERE WHAT IT READS IS OF BULK AT MOST 1048576: true; the input reads as it did. -/
def blockNobodyUptoRow : OpenClaim := { program := "ytpbkclopmiplpaa", sum := "96caf81e4cca6b48c96c0b96990500b0e91e0795945c2725001b39664fa9a070", func := "plover/ploverlaw06.BlockNobody", spec := "blockNobody", unfollowed := true, recurses := true, apart := false, narrowed := true }
def BlockNobodyUptoSaid : Prop := blockNobodyUptoRow.holds Try.pinned (OpenSpec.upto blockNobodySpec)

/-- 'ploverlaw06.BlockTwice', WHERE WHAT IT READS IS OF BULK AT MOST 1048576: true; the input reads as it did. -/
def blockTwiceUptoRow : OpenClaim := { program := "ytpbkclopmiplpaa", sum := "96caf81e4cca6b48c96c0b96990500b0e91e0795945c2725001b39664fa9a070", func := "plover/ploverlaw06.BlockTwice", spec := "blockTwice", unfollowed := true, recurses := true, apart := false, narrowed := true }
def BlockTwiceUptoSaid : Prop := blockTwiceUptoRow.holds Try.pinned (OpenSpec.upto blockTwiceSpec)

end Rows
end Go.Proofs.Ytpbkclopmiplpaa
