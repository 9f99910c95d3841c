/-
  No cell of these rows narrows 'for every input' (looked for: loops, veiled, ifaces, maps, wideKeys, modest, calm, conditions, laid).
  DERIVED. THE GIVEN ROWS OF THIS SEAT. 5 by the template 'for every input the law returns true; each argument reads behind the call as it read before'; 0 by the template 'total and deterministic' (their statements: YtgldbfelccddbaaGreatTotals.lean).
  GIVEN WITH THE SEED: the statements are not yours to turn. If you find one false, say at which input.
  Laid BY PROGRAM, IN A SANDBOX (cutbox-rows.mjs): the forced cells as the released guide's own fill.sh prints them over the translation 8eda7debbdc20e7e… (all of the seat's roots in one cut). By AI agents, Wed Nov 11 2026. No macro, syntax, notation, axiom, sorry.
-/
import Derived.Test.YtgldbfelccddbaaGreatChecked
import GoSem.Claim
import GoSem.ClaimJoined
import GoSem.ClaimMapViews
import Derived.JoinedTies
import Derived.KernelRfl
namespace Go.Proofs.YtgldbfelccddbaaGreat
/- THE CELL 'sum', in the pinned program and in every row, IS THE sha256 OF THE DUMP (.gsa) THAT YtgldbfelccddbaaGreatProg.lean LOADS. Nothing in Lean hashes anything: it is a label: what it is worth is what the hold of that sum in a sandbox is worth. -/
noncomputable def Tryz.pinned : Pinned := { name := "ytgldbfelccddbaagreat", sum := "8eda7debbdc20e7ec706b986fce17ddaca8b412e95a52fe7b74a57520b8f2bb7", checked := Tryz.checked }
namespace Rows
def none {H : Type} : Left H := { results := [], args := [] }

/-- 'cofferdamlaw27.WordBegins': WHATEVER THE INPUT: true; the input reads as it did. -/
def wordBeginsSpec : ChangeSpec := { name := "wordBegins", fn := fun _ => fun
  | [d1, d2, d3, d4] => { results := [.lit (.bool true)], args := [d1, d2, d3, d4] }
  | _ => none }
def wordBeginsRow : OpenClaim := { program := "ytgldbfelccddbaagreat", sum := "8eda7debbdc20e7ec706b986fce17ddaca8b412e95a52fe7b74a57520b8f2bb7", func := "cofferdam/cofferdamlaw27.WordBegins", spec := "wordBegins", inPlace := ["internal/abi.NoEscape", "internal/bytealg.MakeNoZero", "internal/bytealg.IndexByteString"], unfollowed := true, recurses := true, apart := false }
def WordBeginsSaid : Prop := wordBeginsRow.holds Tryz.pinned (OpenSpec.ofChange wordBeginsSpec)

/-- ITS FALSE NEIGHBOUR: 'it returns false'. Refute it at one input. -/
def wordBeginsWrong : ChangeSpec := { name := "wordBegins", fn := fun _ => fun
  | [d1, d2, d3, d4] => { results := [.lit (.bool false)], args := [d1, d2, d3, d4] }
  | _ => none }
def WordBeginsWrongFalsely : Prop := wordBeginsRow.holds Tryz.pinned (OpenSpec.ofChange wordBeginsWrong)

/-- 'cofferdamlaw26.ServPieces': WHATEVER THE INPUT: true; the input reads as it did. -/
def servPiecesSpec : ChangeSpec := { name := "servPieces", fn := fun _ => fun
  | [d1, d2, d3, d4, d5, d6] => { results := [.lit (.bool true)], args := [d1, d2, d3, d4, d5, d6] }
  | _ => none }
def servPiecesRow : OpenClaim := { program := "ytgldbfelccddbaagreat", sum := "8eda7debbdc20e7ec706b986fce17ddaca8b412e95a52fe7b74a57520b8f2bb7", func := "cofferdam/cofferdamlaw26.ServPieces", spec := "servPieces", inPlace := ["internal/abi.NoEscape", "internal/bytealg.MakeNoZero", "internal/bytealg.IndexByteString", "sync/atomic.LoadUint32", "(*internal/sync.Mutex).Lock", "internal/race.Disable", "sync/atomic.CompareAndSwapInt32", "internal/race.Enable", "internal/race.Acquire", "(*internal/sync.Mutex).lockSlow", "internal/sync.runtime_canSpin", "internal/sync.runtime_doSpin", "internal/sync.throw", "internal/sync.runtime_nanotime", "internal/sync.runtime_SemacquireMutex", "sync/atomic.AddInt32", "(*internal/sync.Mutex).Unlock", "internal/race.ReleaseMerge", "(*internal/sync.Mutex).unlockSlow", "internal/sync.fatal", "internal/sync.runtime_Semrelease", "sync/atomic.StoreUint32"], unfollowed := true, recurses := true, apart := false }
def ServPiecesSaid : Prop := servPiecesRow.holds Tryz.pinned (OpenSpec.ofChange servPiecesSpec)

/-- ITS FALSE NEIGHBOUR: 'it returns false'. Refute it at one input. -/
def servPiecesWrong : ChangeSpec := { name := "servPieces", fn := fun _ => fun
  | [d1, d2, d3, d4, d5, d6] => { results := [.lit (.bool false)], args := [d1, d2, d3, d4, d5, d6] }
  | _ => none }
def ServPiecesWrongFalsely : Prop := servPiecesRow.holds Tryz.pinned (OpenSpec.ofChange servPiecesWrong)

/-- 'cofferdamlaw26.ServApart': WHATEVER THE INPUT: true; the input reads as it did. -/
def servApartSpec : ChangeSpec := { name := "servApart", fn := fun _ => fun
  | [d1, d2, d3, d4] => { results := [.lit (.bool true)], args := [d1, d2, d3, d4] }
  | _ => none }
def servApartRow : OpenClaim := { program := "ytgldbfelccddbaagreat", sum := "8eda7debbdc20e7ec706b986fce17ddaca8b412e95a52fe7b74a57520b8f2bb7", func := "cofferdam/cofferdamlaw26.ServApart", spec := "servApart", inPlace := ["internal/abi.NoEscape", "internal/bytealg.MakeNoZero", "internal/bytealg.IndexByteString", "sync/atomic.LoadUint32", "(*internal/sync.Mutex).Lock", "internal/race.Disable", "sync/atomic.CompareAndSwapInt32", "internal/race.Enable", "internal/race.Acquire", "(*internal/sync.Mutex).lockSlow", "internal/sync.runtime_canSpin", "internal/sync.runtime_doSpin", "internal/sync.throw", "internal/sync.runtime_nanotime", "internal/sync.runtime_SemacquireMutex", "sync/atomic.AddInt32", "(*internal/sync.Mutex).Unlock", "internal/race.ReleaseMerge", "(*internal/sync.Mutex).unlockSlow", "internal/sync.fatal", "internal/sync.runtime_Semrelease", "sync/atomic.StoreUint32"], unfollowed := true, recurses := true, apart := false }
def ServApartSaid : Prop := servApartRow.holds Tryz.pinned (OpenSpec.ofChange servApartSpec)

/-- ITS FALSE NEIGHBOUR: 'it returns false'. Refute it at one input. -/
def servApartWrong : ChangeSpec := { name := "servApart", fn := fun _ => fun
  | [d1, d2, d3, d4] => { results := [.lit (.bool false)], args := [d1, d2, d3, d4] }
  | _ => none }
def ServApartWrongFalsely : Prop := servApartRow.holds Tryz.pinned (OpenSpec.ofChange servApartWrong)

/-- 'cofferdamlaw26.ServEnds': WHATEVER THE INPUT: true; the input reads as it did. -/
def servEndsSpec : ChangeSpec := { name := "servEnds", fn := fun _ => fun
  | [d1, d2, d3, d4] => { results := [.lit (.bool true)], args := [d1, d2, d3, d4] }
  | _ => none }
def servEndsRow : OpenClaim := { program := "ytgldbfelccddbaagreat", sum := "8eda7debbdc20e7ec706b986fce17ddaca8b412e95a52fe7b74a57520b8f2bb7", func := "cofferdam/cofferdamlaw26.ServEnds", spec := "servEnds", inPlace := ["internal/abi.NoEscape", "internal/bytealg.MakeNoZero", "internal/bytealg.IndexByteString", "sync/atomic.LoadUint32", "(*internal/sync.Mutex).Lock", "internal/race.Disable", "sync/atomic.CompareAndSwapInt32", "internal/race.Enable", "internal/race.Acquire", "(*internal/sync.Mutex).lockSlow", "internal/sync.runtime_canSpin", "internal/sync.runtime_doSpin", "internal/sync.throw", "internal/sync.runtime_nanotime", "internal/sync.runtime_SemacquireMutex", "sync/atomic.AddInt32", "(*internal/sync.Mutex).Unlock", "internal/race.ReleaseMerge", "(*internal/sync.Mutex).unlockSlow", "internal/sync.fatal", "internal/sync.runtime_Semrelease", "sync/atomic.StoreUint32"], unfollowed := true, recurses := true, apart := false }
def ServEndsSaid : Prop := servEndsRow.holds Tryz.pinned (OpenSpec.ofChange servEndsSpec)

/-- ITS FALSE NEIGHBOUR: 'it returns false'. Refute it at one input. -/
def servEndsWrong : ChangeSpec := { name := "servEnds", fn := fun _ => fun
  | [d1, d2, d3, d4] => { results := [.lit (.bool false)], args := [d1, d2, d3, d4] }
  | _ => none }
def ServEndsWrongFalsely : Prop := servEndsRow.holds Tryz.pinned (OpenSpec.ofChange servEndsWrong)

/-- 'cofferdamlaw26.ServDoes': WHATEVER THE INPUT: true; the input reads as it did. -/
def servDoesSpec : ChangeSpec := { name := "servDoes", fn := fun _ => fun
  | [d1, d2, d3] => { results := [.lit (.bool true)], args := [d1, d2, d3] }
  | _ => none }
def servDoesRow : OpenClaim := { program := "ytgldbfelccddbaagreat", sum := "8eda7debbdc20e7ec706b986fce17ddaca8b412e95a52fe7b74a57520b8f2bb7", func := "cofferdam/cofferdamlaw26.ServDoes", spec := "servDoes", inPlace := ["internal/abi.NoEscape", "internal/bytealg.MakeNoZero", "internal/bytealg.IndexByteString", "sync/atomic.LoadUint32", "(*internal/sync.Mutex).Lock", "internal/race.Disable", "sync/atomic.CompareAndSwapInt32", "internal/race.Enable", "internal/race.Acquire", "(*internal/sync.Mutex).lockSlow", "internal/sync.runtime_canSpin", "internal/sync.runtime_doSpin", "internal/sync.throw", "internal/sync.runtime_nanotime", "internal/sync.runtime_SemacquireMutex", "sync/atomic.AddInt32", "(*internal/sync.Mutex).Unlock", "internal/race.ReleaseMerge", "(*internal/sync.Mutex).unlockSlow", "internal/sync.fatal", "internal/sync.runtime_Semrelease", "sync/atomic.StoreUint32"], unfollowed := true, recurses := true, apart := false }
def ServDoesSaid : Prop := servDoesRow.holds Tryz.pinned (OpenSpec.ofChange servDoesSpec)

/-- ITS FALSE NEIGHBOUR: 'it returns false'. Refute it at one input. -/
def servDoesWrong : ChangeSpec := { name := "servDoes", fn := fun _ => fun
  | [d1, d2, d3] => { results := [.lit (.bool false)], args := [d1, d2, d3] }
  | _ => none }
def ServDoesWrongFalsely : Prop := servDoesRow.holds Tryz.pinned (OpenSpec.ofChange servDoesWrong)

/- THE SECOND FORM. 'bulk': how many values and letters a reading holds, each counted each time it is reached (what is shared counts as often as it is met; a slice's spare places count too). A statement '..UptoSaid' is the law's where the arguments, and the package variables that the reading takes, are together of bulk at most 1048576: NARROWER than '..Said'. Prove '..Said' where nothing that the law and all that it calls make is longer than what came in: it says more and counts as full. Else prove '..UptoSaid'. A law counts once. -/
mutual
def uptoBulk {H : Type} : DataW H → Nat
  | .lit (.string bytes) => bytes.length + 1
  | .lit _ => 1
  | .nil => 1
  | .ptr d => uptoBulk d + 1
  | .slice elems spare => uptoBulkAll elems + uptoBulkAll spare + 1
  | .agg parts => uptoBulkAll parts + 1
  | .iface _ d => uptoBulk d + 1
  | .map entries => uptoBulkEntries entries + 1
  | .held _ => 1
def uptoBulkAll {H : Type} : List (DataW H) → Nat
  | [] => 0
  | d :: r => uptoBulk d + uptoBulkAll r
def uptoBulkEntries {H : Type} : List (Lit × DataW H) → Nat
  | [] => 0
  | x :: r => uptoBulkEntry x + uptoBulkEntries r
def uptoBulkEntry {H : Type} : Lit × DataW H → Nat
  | (.string bytes, d) => bytes.length + uptoBulk d + 1
  | (_, d) => uptoBulk d + 1
 end
def uptoSmall : (H : Type) → List (DataW H) → Bool := fun _ ds => decide (uptoBulkAll ds ≤ 1048576)
def OpenSpec.upto (s : _root_.Go.ChangeSpec) : _root_.Go.OpenSpec := { _root_.Go.OpenSpec.ofChange s with cond := some uptoSmall }

/-- 'cofferdamlaw27.WordBegins', WHERE WHAT IT READS IS OF BULK AT MOST 1048576: true; the input reads as it did. -/
def wordBeginsUptoRow : OpenClaim := { program := "ytgldbfelccddbaagreat", sum := "8eda7debbdc20e7ec706b986fce17ddaca8b412e95a52fe7b74a57520b8f2bb7", func := "cofferdam/cofferdamlaw27.WordBegins", spec := "wordBegins", inPlace := ["internal/abi.NoEscape", "internal/bytealg.MakeNoZero", "internal/bytealg.IndexByteString"], unfollowed := true, recurses := true, apart := false, narrowed := true }
def WordBeginsUptoSaid : Prop := wordBeginsUptoRow.holds Tryz.pinned (OpenSpec.upto wordBeginsSpec)

/-- 'cofferdamlaw26.ServPieces', WHERE WHAT IT READS IS OF BULK AT MOST 1048576: true; the input reads as it did. -/
def servPiecesUptoRow : OpenClaim := { program := "ytgldbfelccddbaagreat", sum := "8eda7debbdc20e7ec706b986fce17ddaca8b412e95a52fe7b74a57520b8f2bb7", func := "cofferdam/cofferdamlaw26.ServPieces", spec := "servPieces", inPlace := ["internal/abi.NoEscape", "internal/bytealg.MakeNoZero", "internal/bytealg.IndexByteString", "sync/atomic.LoadUint32", "(*internal/sync.Mutex).Lock", "internal/race.Disable", "sync/atomic.CompareAndSwapInt32", "internal/race.Enable", "internal/race.Acquire", "(*internal/sync.Mutex).lockSlow", "internal/sync.runtime_canSpin", "internal/sync.runtime_doSpin", "internal/sync.throw", "internal/sync.runtime_nanotime", "internal/sync.runtime_SemacquireMutex", "sync/atomic.AddInt32", "(*internal/sync.Mutex).Unlock", "internal/race.ReleaseMerge", "(*internal/sync.Mutex).unlockSlow", "internal/sync.fatal", "internal/sync.runtime_Semrelease", "sync/atomic.StoreUint32"], unfollowed := true, recurses := true, apart := false, narrowed := true }
def ServPiecesUptoSaid : Prop := servPiecesUptoRow.holds Tryz.pinned (OpenSpec.upto servPiecesSpec)

/-- 'cofferdamlaw26.ServApart', WHERE WHAT IT READS IS OF BULK AT MOST 1048576: true; the input reads as it did. -/
def servApartUptoRow : OpenClaim := { program := "ytgldbfelccddbaagreat", sum := "8eda7debbdc20e7ec706b986fce17ddaca8b412e95a52fe7b74a57520b8f2bb7", func := "cofferdam/cofferdamlaw26.ServApart", spec := "servApart", inPlace := ["internal/abi.NoEscape", "internal/bytealg.MakeNoZero", "internal/bytealg.IndexByteString", "sync/atomic.LoadUint32", "(*internal/sync.Mutex).Lock", "internal/race.Disable", "sync/atomic.CompareAndSwapInt32", "internal/race.Enable", "internal/race.Acquire", "(*internal/sync.Mutex).lockSlow", "internal/sync.runtime_canSpin", "internal/sync.runtime_doSpin", "internal/sync.throw", "internal/sync.runtime_nanotime", "internal/sync.runtime_SemacquireMutex", "sync/atomic.AddInt32", "(*internal/sync.Mutex).Unlock", "internal/race.ReleaseMerge", "(*internal/sync.Mutex).unlockSlow", "internal/sync.fatal", "internal/sync.runtime_Semrelease", "sync/atomic.StoreUint32"], unfollowed := true, recurses := true, apart := false, narrowed := true }
def ServApartUptoSaid : Prop := servApartUptoRow.holds Tryz.pinned (OpenSpec.upto servApartSpec)

/-- 'cofferdamlaw26.ServEnds', WHERE WHAT IT READS IS OF BULK AT MOST 1048576: true; the input reads as it did. -/
def servEndsUptoRow : OpenClaim := { program := "ytgldbfelccddbaagreat", sum := "8eda7debbdc20e7ec706b986fce17ddaca8b412e95a52fe7b74a57520b8f2bb7", func := "cofferdam/cofferdamlaw26.ServEnds", spec := "servEnds", inPlace := ["internal/abi.NoEscape", "internal/bytealg.MakeNoZero", "internal/bytealg.IndexByteString", "sync/atomic.LoadUint32", "(*internal/sync.Mutex).Lock", "internal/race.Disable", "sync/atomic.CompareAndSwapInt32", "internal/race.Enable", "internal/race.Acquire", "(*internal/sync.Mutex).lockSlow", "internal/sync.runtime_canSpin", "internal/sync.runtime_doSpin", "internal/sync.throw", "internal/sync.runtime_nanotime", "internal/sync.runtime_SemacquireMutex", "sync/atomic.AddInt32", "(*internal/sync.Mutex).Unlock", "internal/race.ReleaseMerge", "(*internal/sync.Mutex).unlockSlow", "internal/sync.fatal", "internal/sync.runtime_Semrelease", "sync/atomic.StoreUint32"], unfollowed := true, recurses := true, apart := false, narrowed := true }
def ServEndsUptoSaid : Prop := servEndsUptoRow.holds Tryz.pinned (OpenSpec.upto servEndsSpec)

/-- 'cofferdamlaw26.ServDoes', WHERE WHAT IT READS IS OF BULK AT MOST 1048576: true; the input reads as it did. -/
def servDoesUptoRow : OpenClaim := { program := "ytgldbfelccddbaagreat", sum := "8eda7debbdc20e7ec706b986fce17ddaca8b412e95a52fe7b74a57520b8f2bb7", func := "cofferdam/cofferdamlaw26.ServDoes", spec := "servDoes", inPlace := ["internal/abi.NoEscape", "internal/bytealg.MakeNoZero", "internal/bytealg.IndexByteString", "sync/atomic.LoadUint32", "(*internal/sync.Mutex).Lock", "internal/race.Disable", "sync/atomic.CompareAndSwapInt32", "internal/race.Enable", "internal/race.Acquire", "(*internal/sync.Mutex).lockSlow", "internal/sync.runtime_canSpin", "internal/sync.runtime_doSpin", "internal/sync.throw", "internal/sync.runtime_nanotime", "internal/sync.runtime_SemacquireMutex", "sync/atomic.AddInt32", "(*internal/sync.Mutex).Unlock", "internal/race.ReleaseMerge", "(*internal/sync.Mutex).unlockSlow", "internal/sync.fatal", "internal/sync.runtime_Semrelease", "sync/atomic.StoreUint32"], unfollowed := true, recurses := true, apart := false, narrowed := true }
def ServDoesUptoSaid : Prop := servDoesUptoRow.holds Tryz.pinned (OpenSpec.upto servDoesSpec)

end Rows
end Go.Proofs.YtgldbfelccddbaaGreat
