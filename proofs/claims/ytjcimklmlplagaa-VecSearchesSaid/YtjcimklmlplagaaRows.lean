/-
  No cell of these rows narrows 'for every input' (looked for: loops, veiled, ifaces, maps, wideKeys, modest, calm, conditions, laid).
  DERIVED. THE GIVEN ROWS OF THIS SEAT. 5 by the template 'for every input the law returns true; each argument reads behind the call as it read before'; 0 by the template 'total and deterministic' (their statements: YtjcimklmlplagaaTotals.lean).
  GIVEN WITH THE SEED: the statements are not yours to turn. If you find one false, say at which input.
  Laid BY PROGRAM, IN A SANDBOX (cutbox-rows.mjs): the forced cells as the released guide's own fill.sh prints them over the translation fd3743261ae8e460… (all of the seat's roots in one cut). By AI agents, Wed Nov 11 2026. No macro, syntax, notation, axiom, sorry.
-/
import Derived.Test.YtjcimklmlplagaaChecked
import GoSem.Claim
import GoSem.ClaimJoined
import GoSem.ClaimMapViews
import Derived.JoinedTies
import Derived.KernelRfl
namespace Go.Proofs.Ytjcimklmlplagaa
/- THE CELL 'sum', in the pinned program and in every row, IS THE sha256 OF THE DUMP (.gsa) THAT YtjcimklmlplagaaProg.lean LOADS. Nothing in Lean hashes anything: it is a label: what it is worth is what the hold of that sum in a sandbox is worth. -/
noncomputable def Try.pinned : Pinned := { name := "ytjcimklmlplagaa", sum := "fd3743261ae8e4600a5ee168988d953b28402a08e3aae9d8f901ca84bcba3765", checked := Try.checked }
namespace Rows
def none {H : Type} : Left H := { results := [], args := [] }

/-- 'ploverlaw05.VecTops': WHATEVER THE INPUT: true; the input reads as it did. -/
def vecTopsSpec : ChangeSpec := { name := "vecTops", fn := fun _ => fun
  | [d1, d2] => { results := [.lit (.bool true)], args := [d1, d2] }
  | _ => none }
def vecTopsRow : OpenClaim := { program := "ytjcimklmlplagaa", sum := "fd3743261ae8e4600a5ee168988d953b28402a08e3aae9d8f901ca84bcba3765", func := "plover/ploverlaw05.VecTops", spec := "vecTops", unfollowed := true, recurses := true, apart := false }
def VecTopsSaid : Prop := vecTopsRow.holds Try.pinned (OpenSpec.ofChange vecTopsSpec)

/-- ITS FALSE NEIGHBOUR: 'it returns false'. Refute it at one input. -/
def vecTopsWrong : ChangeSpec := { name := "vecTops", fn := fun _ => fun
  | [d1, d2] => { results := [.lit (.bool false)], args := [d1, d2] }
  | _ => none }
def VecTopsWrongFalsely : Prop := vecTopsRow.holds Try.pinned (OpenSpec.ofChange vecTopsWrong)

/-- 'ploverlaw05.VecMerges': WHATEVER THE INPUT: true; the input reads as it did. -/
def vecMergesSpec : ChangeSpec := { name := "vecMerges", fn := fun _ => fun
  | [d1, d2, d3] => { results := [.lit (.bool true)], args := [d1, d2, d3] }
  | _ => none }
def vecMergesRow : OpenClaim := { program := "ytjcimklmlplagaa", sum := "fd3743261ae8e4600a5ee168988d953b28402a08e3aae9d8f901ca84bcba3765", func := "plover/ploverlaw05.VecMerges", spec := "vecMerges", unfollowed := true, recurses := true, apart := false }
def VecMergesSaid : Prop := vecMergesRow.holds Try.pinned (OpenSpec.ofChange vecMergesSpec)

/-- ITS FALSE NEIGHBOUR: 'it returns false'. Refute it at one input. -/
def vecMergesWrong : ChangeSpec := { name := "vecMerges", fn := fun _ => fun
  | [d1, d2, d3] => { results := [.lit (.bool false)], args := [d1, d2, d3] }
  | _ => none }
def VecMergesWrongFalsely : Prop := vecMergesRow.holds Try.pinned (OpenSpec.ofChange vecMergesWrong)

/-- 'ploverlaw05.VecFew': WHATEVER THE INPUT: true; the input reads as it did. -/
def vecFewSpec : ChangeSpec := { name := "vecFew", fn := fun _ => fun
  | [d1, d2, d3] => { results := [.lit (.bool true)], args := [d1, d2, d3] }
  | _ => none }
def vecFewRow : OpenClaim := { program := "ytjcimklmlplagaa", sum := "fd3743261ae8e4600a5ee168988d953b28402a08e3aae9d8f901ca84bcba3765", func := "plover/ploverlaw05.VecFew", spec := "vecFew", unfollowed := true, recurses := true, apart := false }
def VecFewSaid : Prop := vecFewRow.holds Try.pinned (OpenSpec.ofChange vecFewSpec)

/-- ITS FALSE NEIGHBOUR: 'it returns false'. Refute it at one input. -/
def vecFewWrong : ChangeSpec := { name := "vecFew", fn := fun _ => fun
  | [d1, d2, d3] => { results := [.lit (.bool false)], args := [d1, d2, d3] }
  | _ => none }
def VecFewWrongFalsely : Prop := vecFewRow.holds Try.pinned (OpenSpec.ofChange vecFewWrong)

/-- 'ploverlaw05.VecLess': WHATEVER THE INPUT: true; the input reads as it did. -/
def vecLessSpec : ChangeSpec := { name := "vecLess", fn := fun _ => fun
  | [d1, d2, d3] => { results := [.lit (.bool true)], args := [d1, d2, d3] }
  | _ => none }
def vecLessRow : OpenClaim := { program := "ytjcimklmlplagaa", sum := "fd3743261ae8e4600a5ee168988d953b28402a08e3aae9d8f901ca84bcba3765", func := "plover/ploverlaw05.VecLess", spec := "vecLess", unfollowed := true, recurses := true, apart := false }
def VecLessSaid : Prop := vecLessRow.holds Try.pinned (OpenSpec.ofChange vecLessSpec)

/-- ITS FALSE NEIGHBOUR: 'it returns false'. Refute it at one input. -/
def vecLessWrong : ChangeSpec := { name := "vecLess", fn := fun _ => fun
  | [d1, d2, d3] => { results := [.lit (.bool false)], args := [d1, d2, d3] }
  | _ => none }
def VecLessWrongFalsely : Prop := vecLessRow.holds Try.pinned (OpenSpec.ofChange vecLessWrong)

/-- 'ploverlaw05.VecSearches': WHATEVER THE INPUT: true; the input reads as it did. -/
def vecSearchesSpec : ChangeSpec := { name := "vecSearches", fn := fun _ => fun
  | [d1, d2, d3] => { results := [.lit (.bool true)], args := [d1, d2, d3] }
  | _ => none }
def vecSearchesRow : OpenClaim := { program := "ytjcimklmlplagaa", sum := "fd3743261ae8e4600a5ee168988d953b28402a08e3aae9d8f901ca84bcba3765", func := "plover/ploverlaw05.VecSearches", spec := "vecSearches", unfollowed := true, recurses := true, apart := false }
def VecSearchesSaid : Prop := vecSearchesRow.holds Try.pinned (OpenSpec.ofChange vecSearchesSpec)

/-- ITS FALSE NEIGHBOUR: 'it returns false'. Refute it at one input. -/
def vecSearchesWrong : ChangeSpec := { name := "vecSearches", fn := fun _ => fun
  | [d1, d2, d3] => { results := [.lit (.bool false)], args := [d1, d2, d3] }
  | _ => none }
def VecSearchesWrongFalsely : Prop := vecSearchesRow.holds Try.pinned (OpenSpec.ofChange vecSearchesWrong)

/- THE SECOND FORM. 'bulk': how many values and letters a reading holds, each counted each time it is reached (what is shared counts as often as it is met; a slice's spare places count too). A statement '..UptoSaid' is the law's where the arguments, and the package variables that the reading takes, are together of bulk at most 1048576: NARROWER than '..Said'. Prove '..Said' where nothing that the law and all that it calls make is longer than what came in: it says more and counts as full. Else prove '..UptoSaid'. A law counts once. -/
mutual
def uptoBulk {H : Type} : DataW H → Nat
  | .lit (.string bytes) => bytes.length + 1
  | .lit _ => 1
  | .nil => 1
  | .ptr d => uptoBulk d + 1
  | .slice elems spare => uptoBulkAll elems + uptoBulkAll spare + 1
  | .agg parts => uptoBulkAll parts + 1
  | .iface _ d => uptoBulk d + 1
  | .map entries => uptoBulkEntries entries + 1
  | .held _ => 1
def uptoBulkAll {H : Type} : List (DataW H) → Nat
  | [] => 0
  | d :: r => uptoBulk d + uptoBulkAll r
def uptoBulkEntries {H : Type} : List (Lit × DataW H) → Nat
  | [] => 0
  | x :: r => uptoBulkEntry x + uptoBulkEntries r
def uptoBulkEntry {H : Type} : Lit × DataW H → Nat
  | (.string bytes, d) => bytes.length + uptoBulk d + 1
  | (_, d) => uptoBulk d + 1
 end
def uptoSmall : (H : Type) → List (DataW H) → Bool := fun _ ds => decide (uptoBulkAll ds ≤ 1048576)
def OpenSpec.upto (s : _root_.Go.ChangeSpec) : _root_.Go.OpenSpec := { _root_.Go.OpenSpec.ofChange s with cond := some uptoSmall }

/-- 'ploverlaw05.VecTops', WHERE WHAT IT READS IS OF BULK AT MOST 1048576: true; the input reads as it did. -/
def vecTopsUptoRow : OpenClaim := { program := "ytjcimklmlplagaa", sum := "fd3743261ae8e4600a5ee168988d953b28402a08e3aae9d8f901ca84bcba3765", func := "plover/ploverlaw05.VecTops", spec := "vecTops", unfollowed := true, recurses := true, apart := false, narrowed := true }
def VecTopsUptoSaid : Prop := vecTopsUptoRow.holds Try.pinned (OpenSpec.upto vecTopsSpec)

/-- 'ploverlaw05.VecMerges', WHERE WHAT IT READS IS OF BULK AT MOST 1048576: true; the input reads as it did. -/
def vecMergesUptoRow : OpenClaim := { program := "ytjcimklmlplagaa", sum := "fd3743261ae8e4600a5ee168988d953b28402a08e3aae9d8f901ca84bcba3765", func := "plover/ploverlaw05.VecMerges", spec := "vecMerges", unfollowed := true, recurses := true, apart := false, narrowed := true }
def VecMergesUptoSaid : Prop := vecMergesUptoRow.holds Try.pinned (OpenSpec.upto vecMergesSpec)

/-- 'ploverlaw05.VecFew', WHERE WHAT IT READS IS OF BULK AT MOST 1048576: true; the input reads as it did. -/
def vecFewUptoRow : OpenClaim := { program := "ytjcimklmlplagaa", sum := "fd3743261ae8e4600a5ee168988d953b28402a08e3aae9d8f901ca84bcba3765", func := "plover/ploverlaw05.VecFew", spec := "vecFew", unfollowed := true, recurses := true, apart := false, narrowed := true }
def VecFewUptoSaid : Prop := vecFewUptoRow.holds Try.pinned (OpenSpec.upto vecFewSpec)

/-- 'ploverlaw05.VecLess', WHERE WHAT IT READS IS OF BULK AT MOST 1048576: true; the input reads as it did. -/
def vecLessUptoRow : OpenClaim := { program := "ytjcimklmlplagaa", sum := "fd3743261ae8e4600a5ee168988d953b28402a08e3aae9d8f901ca84bcba3765", func := "plover/ploverlaw05.VecLess", spec := "vecLess", unfollowed := true, recurses := true, apart := false, narrowed := true }
def VecLessUptoSaid : Prop := vecLessUptoRow.holds Try.pinned (OpenSpec.upto vecLessSpec)

/-- 'ploverlaw05.VecSearches', WHERE WHAT IT READS IS OF BULK AT MOST 1048576: true; the input reads as it did. -/
def vecSearchesUptoRow : OpenClaim := { program := "ytjcimklmlplagaa", sum := "fd3743261ae8e4600a5ee168988d953b28402a08e3aae9d8f901ca84bcba3765", func := "plover/ploverlaw05.VecSearches", spec := "vecSearches", unfollowed := true, recurses := true, apart := false, narrowed := true }
def VecSearchesUptoSaid : Prop := vecSearchesUptoRow.holds Try.pinned (OpenSpec.upto vecSearchesSpec)

end Rows
end Go.Proofs.Ytjcimklmlplagaa
