/- The contracts of crc.Sum, crc.Hex and crc.Unhex, in the print's form. -/
import Derived.Test.YtifbpchakoljaaaDoorHexX
import Derived.Test.YtifbpchakoljaaaDoorCrcX
import Derived.WalkKit
import Derived.Below
namespace Go.Proofs.YtifbpchakoljaaaDoor.Giv
open Go.RowKit Go.Lib Go.Proofs.YtifbpchakoljaaaDoor.Hx

def LaidW (w : World) : Prop := TabAt 4 Lib.deBruijn64tab w ∧ ErrAt 1 w ∧ ErrAt 2 w
theorem LaidW.below {w w' : World} (h : LaidW w) (hb : Below w.heap.size w w') : LaidW w' := ⟨TabAt_below h.1 hb, h.2.1.below hb, h.2.2.below hb⟩
def crc_Hex.f (n : Int) : Option (ByteArray × Int) := if -9223372036854775808 ≤ n ∧ n ≤ 9223372036854775807 then some (hexF n) else none
theorem crc_Hex.calls (a0 : Int) (r1 : ByteArray) (r2 : Int) (w : World) (hL : LaidW w) (h : crc_Hex.f a0 = some (r1, r2)) :
    Calls Tryd.prog 17 #[.int .i64 a0] w fun e w' => e = .returned (.tuple #[.string r1, .int .i64 r2]) ∧ Below w.heap.size w w' := by
  unfold crc_Hex.f at h
  split at h
  · rename_i hr
    have e := Option.some.inj h
    have c := hex_calls a0 w hr.1 hr.2 hL.1
    rw [e] at c
    exact c
  · cases h
def crc_Unhex.f (s : ByteArray) : Option (Int × Int) := if s.size ≤ 140737488351232 then some (unhexF s) else none
theorem crc_Unhex.calls (a0 : ByteArray) (r1 : Int) (r2 : Int) (w : World) (hL : LaidW w) (h : crc_Unhex.f a0 = some (r1, r2)) :
    Calls Tryd.prog 21 #[.string a0] w fun e w' => e = .returned (.tuple #[.int .i64 r1, .int .i64 r2]) ∧ Below w.heap.size w w' := by
  unfold crc_Unhex.f at h
  split at h
  · rename_i hr
    have e := Option.some.inj h
    have c := unhex_calls a0 hr w hL.1 hL.2.1 hL.2.2
    rw [e] at c
    exact c
  · cases h
def crc_Sum.f (s : ByteArray) : Option Int := if s.size ≤ 140737488351232 then some ((crcSum s.data.toList : Nat) : Int) else none
theorem crc_Sum.calls (a0 : ByteArray) (r : Int) (w : World) (h : crc_Sum.f a0 = some r) :
    Calls Tryd.prog 18 #[.string a0] w fun e w' => e = .returned (.int .i64 r) ∧ Below w.heap.size w w' := by
  unfold crc_Sum.f at h
  split at h
  · rename_i hs
    obtain rfl := Option.some.inj h
    exact codeSum_any a0 w hs
  · cases h

end Go.Proofs.YtifbpchakoljaaaDoor.Giv
