/-
  NARROWER THAN 'FOR EVERY INPUT', by the rows' own cells (each row's printed sentence says how): TemplatesCheck: loops · NodesCheck: loops.
  DERIVED. THE GIVEN ROWS OF THIS SEAT. 10 by the template 'for every input the law returns true; each argument reads behind the call as it read before'; 0 by the template 'total and deterministic' (their statements: YtlnehkjmmegkhaaGreatTotals.lean).
  GIVEN WITH THE SEED: the statements are not yours to turn. If you find one false, say at which input.
  Laid BY PROGRAM, IN A SANDBOX (cutbox-rows.mjs): the forced cells as the released guide's own fill.sh prints them over the translation 68d4f22379077e0a… (all of the seat's roots in one cut). By AI agents, Wed Nov 11 2026. No macro, syntax, notation, axiom, sorry.
-/
import Derived.Test.YtlnehkjmmegkhaaGreatChecked
import GoSem.Claim
import GoSem.ClaimJoined
import GoSem.ClaimMapViews
import Derived.JoinedTies
import Derived.KernelRfl
namespace Go.Proofs.YtlnehkjmmegkhaaGreat
/- THE CELL 'sum', in the pinned program and in every row, IS THE sha256 OF THE DUMP (.gsa) THAT YtlnehkjmmegkhaaGreatProg.lean LOADS. Nothing in Lean hashes anything: it is a label: what it is worth is what the hold of that sum in a sandbox is worth. -/
noncomputable def Tryz.pinned : Pinned := { name := "ytlnehkjmmegkhaagreat", sum := "68d4f22379077e0a7840ecf8d06b695783b2e7b84c078c7bafa947328d334cfd", checked := Tryz.checked }
namespace Rows
def none {H : Type} : Left H := { results := [], args := [] }

/-- 'paternosterlaw12.NodesAt': WHATEVER THE INPUT: true; the input reads as it did. -/
def nodesAtSpec : ChangeSpec := { name := "nodesAt", fn := fun _ => fun
  | [d1, d2] => { results := [.lit (.bool true)], args := [d1, d2] }
  | _ => none }
def nodesAtRow : OpenClaim := { program := "ytlnehkjmmegkhaagreat", sum := "68d4f22379077e0a7840ecf8d06b695783b2e7b84c078c7bafa947328d334cfd", func := "paternoster/paternosterlaw12.NodesAt", spec := "nodesAt", inPlace := ["sync/atomic.LoadUint32", "(*internal/sync.Mutex).Lock", "internal/race.Disable", "sync/atomic.CompareAndSwapInt32", "internal/race.Enable", "internal/race.Acquire", "(*internal/sync.Mutex).lockSlow", "internal/sync.runtime_canSpin", "internal/sync.runtime_doSpin", "internal/sync.throw", "internal/sync.runtime_nanotime", "internal/sync.runtime_SemacquireMutex", "sync/atomic.AddInt32", "(*internal/sync.Mutex).Unlock", "internal/race.ReleaseMerge", "(*internal/sync.Mutex).unlockSlow", "internal/sync.fatal", "internal/sync.runtime_Semrelease", "sync/atomic.StoreUint32", "internal/abi.NoEscape"], unfollowed := true, recurses := true, apart := false }
def NodesAtSaid : Prop := nodesAtRow.holds Tryz.pinned (OpenSpec.ofChange nodesAtSpec)

/-- ITS FALSE NEIGHBOUR: 'it returns false'. Refute it at one input. -/
def nodesAtWrong : ChangeSpec := { name := "nodesAt", fn := fun _ => fun
  | [d1, d2] => { results := [.lit (.bool false)], args := [d1, d2] }
  | _ => none }
def NodesAtWrongFalsely : Prop := nodesAtRow.holds Tryz.pinned (OpenSpec.ofChange nodesAtWrong)

/-- 'paternosterlaw14.TemplatesRender': WHATEVER THE INPUT: true; the input reads as it did. -/
def templatesRenderSpec : ChangeSpec := { name := "templatesRender", fn := fun _ => fun
  | [d1, d2, d3] => { results := [.lit (.bool true)], args := [d1, d2, d3] }
  | _ => none }
def templatesRenderRow : OpenClaim := { program := "ytlnehkjmmegkhaagreat", sum := "68d4f22379077e0a7840ecf8d06b695783b2e7b84c078c7bafa947328d334cfd", func := "paternoster/paternosterlaw14.TemplatesRender", spec := "templatesRender", inPlace := ["sync/atomic.LoadUint32", "(*internal/sync.Mutex).Lock", "internal/race.Disable", "sync/atomic.CompareAndSwapInt32", "internal/race.Enable", "internal/race.Acquire", "(*internal/sync.Mutex).lockSlow", "internal/sync.runtime_canSpin", "internal/sync.runtime_doSpin", "internal/sync.throw", "internal/sync.runtime_nanotime", "internal/sync.runtime_SemacquireMutex", "sync/atomic.AddInt32", "(*internal/sync.Mutex).Unlock", "internal/race.ReleaseMerge", "(*internal/sync.Mutex).unlockSlow", "internal/sync.fatal", "internal/sync.runtime_Semrelease", "sync/atomic.StoreUint32", "internal/abi.NoEscape"], unfollowed := true, recurses := true, apart := false }
def TemplatesRenderSaid : Prop := templatesRenderRow.holds Tryz.pinned (OpenSpec.ofChange templatesRenderSpec)

/-- ITS FALSE NEIGHBOUR: 'it returns false'. Refute it at one input. -/
def templatesRenderWrong : ChangeSpec := { name := "templatesRender", fn := fun _ => fun
  | [d1, d2, d3] => { results := [.lit (.bool false)], args := [d1, d2, d3] }
  | _ => none }
def TemplatesRenderWrongFalsely : Prop := templatesRenderRow.holds Tryz.pinned (OpenSpec.ofChange templatesRenderWrong)

/-- 'paternosterlaw14.TemplatesUses': WHATEVER THE INPUT: true; the input reads as it did. -/
def templatesUsesSpec : ChangeSpec := { name := "templatesUses", fn := fun _ => fun
  | [d1, d2, d3] => { results := [.lit (.bool true)], args := [d1, d2, d3] }
  | _ => none }
def templatesUsesRow : OpenClaim := { program := "ytlnehkjmmegkhaagreat", sum := "68d4f22379077e0a7840ecf8d06b695783b2e7b84c078c7bafa947328d334cfd", func := "paternoster/paternosterlaw14.TemplatesUses", spec := "templatesUses", inPlace := ["sync/atomic.LoadUint32", "(*internal/sync.Mutex).Lock", "internal/race.Disable", "sync/atomic.CompareAndSwapInt32", "internal/race.Enable", "internal/race.Acquire", "(*internal/sync.Mutex).lockSlow", "internal/sync.runtime_canSpin", "internal/sync.runtime_doSpin", "internal/sync.throw", "internal/sync.runtime_nanotime", "internal/sync.runtime_SemacquireMutex", "sync/atomic.AddInt32", "(*internal/sync.Mutex).Unlock", "internal/race.ReleaseMerge", "(*internal/sync.Mutex).unlockSlow", "internal/sync.fatal", "internal/sync.runtime_Semrelease", "sync/atomic.StoreUint32", "internal/abi.NoEscape"], unfollowed := true, recurses := true, apart := false }
def TemplatesUsesSaid : Prop := templatesUsesRow.holds Tryz.pinned (OpenSpec.ofChange templatesUsesSpec)

/-- ITS FALSE NEIGHBOUR: 'it returns false'. Refute it at one input. -/
def templatesUsesWrong : ChangeSpec := { name := "templatesUses", fn := fun _ => fun
  | [d1, d2, d3] => { results := [.lit (.bool false)], args := [d1, d2, d3] }
  | _ => none }
def TemplatesUsesWrongFalsely : Prop := templatesUsesRow.holds Tryz.pinned (OpenSpec.ofChange templatesUsesWrong)

/-- 'paternosterlaw14.TemplatesCheck': WHATEVER THE INPUT: true; the input reads as it did. -/
def templatesCheckSpec : ChangeSpec := { name := "templatesCheck", fn := fun _ => fun
  | [d1, d2] => { results := [.lit (.bool true)], args := [d1, d2] }
  | _ => none }
def templatesCheckRow : OpenClaim := { program := "ytlnehkjmmegkhaagreat", sum := "68d4f22379077e0a7840ecf8d06b695783b2e7b84c078c7bafa947328d334cfd", func := "paternoster/paternosterlaw14.TemplatesCheck", spec := "templatesCheck", inPlace := ["sync/atomic.LoadUint32", "(*internal/sync.Mutex).Lock", "internal/race.Disable", "sync/atomic.CompareAndSwapInt32", "internal/race.Enable", "internal/race.Acquire", "(*internal/sync.Mutex).lockSlow", "internal/sync.runtime_canSpin", "internal/sync.runtime_doSpin", "internal/sync.throw", "internal/sync.runtime_nanotime", "internal/sync.runtime_SemacquireMutex", "sync/atomic.AddInt32", "(*internal/sync.Mutex).Unlock", "internal/race.ReleaseMerge", "(*internal/sync.Mutex).unlockSlow", "internal/sync.fatal", "internal/sync.runtime_Semrelease", "sync/atomic.StoreUint32", "internal/abi.NoEscape"], unfollowed := true, recurses := true, loops := true, apart := false }
def TemplatesCheckSaid : Prop := templatesCheckRow.holds Tryz.pinned (OpenSpec.ofChange templatesCheckSpec)

/-- ITS FALSE NEIGHBOUR: 'it returns false'. Refute it at one input. -/
def templatesCheckWrong : ChangeSpec := { name := "templatesCheck", fn := fun _ => fun
  | [d1, d2] => { results := [.lit (.bool false)], args := [d1, d2] }
  | _ => none }
def TemplatesCheckWrongFalsely : Prop := templatesCheckRow.holds Tryz.pinned (OpenSpec.ofChange templatesCheckWrong)

/-- 'paternosterlaw14.TemplatesErrors': WHATEVER THE INPUT: true; the input reads as it did. -/
def templatesErrorsSpec : ChangeSpec := { name := "templatesErrors", fn := fun _ => fun
  | [d1, d2, d3] => { results := [.lit (.bool true)], args := [d1, d2, d3] }
  | _ => none }
def templatesErrorsRow : OpenClaim := { program := "ytlnehkjmmegkhaagreat", sum := "68d4f22379077e0a7840ecf8d06b695783b2e7b84c078c7bafa947328d334cfd", func := "paternoster/paternosterlaw14.TemplatesErrors", spec := "templatesErrors", inPlace := ["sync/atomic.LoadUint32", "(*internal/sync.Mutex).Lock", "internal/race.Disable", "sync/atomic.CompareAndSwapInt32", "internal/race.Enable", "internal/race.Acquire", "(*internal/sync.Mutex).lockSlow", "internal/sync.runtime_canSpin", "internal/sync.runtime_doSpin", "internal/sync.throw", "internal/sync.runtime_nanotime", "internal/sync.runtime_SemacquireMutex", "sync/atomic.AddInt32", "(*internal/sync.Mutex).Unlock", "internal/race.ReleaseMerge", "(*internal/sync.Mutex).unlockSlow", "internal/sync.fatal", "internal/sync.runtime_Semrelease", "sync/atomic.StoreUint32", "internal/abi.NoEscape"], unfollowed := true, recurses := true, apart := false }
def TemplatesErrorsSaid : Prop := templatesErrorsRow.holds Tryz.pinned (OpenSpec.ofChange templatesErrorsSpec)

/-- ITS FALSE NEIGHBOUR: 'it returns false'. Refute it at one input. -/
def templatesErrorsWrong : ChangeSpec := { name := "templatesErrors", fn := fun _ => fun
  | [d1, d2, d3] => { results := [.lit (.bool false)], args := [d1, d2, d3] }
  | _ => none }
def TemplatesErrorsWrongFalsely : Prop := templatesErrorsRow.holds Tryz.pinned (OpenSpec.ofChange templatesErrorsWrong)

/-- 'paternosterlaw14.TemplatesKnown': WHATEVER THE INPUT: true; the input reads as it did. -/
def templatesKnownSpec : ChangeSpec := { name := "templatesKnown", fn := fun _ => fun
  | [] => { results := [.lit (.bool true)], args := [] }
  | _ => none }
def templatesKnownRow : OpenClaim := { program := "ytlnehkjmmegkhaagreat", sum := "68d4f22379077e0a7840ecf8d06b695783b2e7b84c078c7bafa947328d334cfd", func := "paternoster/paternosterlaw14.TemplatesKnown", spec := "templatesKnown", inPlace := ["sync/atomic.LoadUint32", "(*internal/sync.Mutex).Lock", "internal/race.Disable", "sync/atomic.CompareAndSwapInt32", "internal/race.Enable", "internal/race.Acquire", "(*internal/sync.Mutex).lockSlow", "internal/sync.runtime_canSpin", "internal/sync.runtime_doSpin", "internal/sync.throw", "internal/sync.runtime_nanotime", "internal/sync.runtime_SemacquireMutex", "sync/atomic.AddInt32", "(*internal/sync.Mutex).Unlock", "internal/race.ReleaseMerge", "(*internal/sync.Mutex).unlockSlow", "internal/sync.fatal", "internal/sync.runtime_Semrelease", "sync/atomic.StoreUint32", "internal/abi.NoEscape"], unfollowed := true, recurses := true, apart := false }
def TemplatesKnownSaid : Prop := templatesKnownRow.holds Tryz.pinned (OpenSpec.ofChange templatesKnownSpec)

/-- ITS FALSE NEIGHBOUR: 'it returns false'. Refute it at one input. -/
def templatesKnownWrong : ChangeSpec := { name := "templatesKnown", fn := fun _ => fun
  | [] => { results := [.lit (.bool false)], args := [] }
  | _ => none }
def TemplatesKnownWrongFalsely : Prop := templatesKnownRow.holds Tryz.pinned (OpenSpec.ofChange templatesKnownWrong)

/-- 'paternosterlaw12.NodesText': WHATEVER THE INPUT: true; the input reads as it did. -/
def nodesTextSpec : ChangeSpec := { name := "nodesText", fn := fun _ => fun
  | [d] => { results := [.lit (.bool true)], args := [d] }
  | _ => none }
def nodesTextRow : OpenClaim := { program := "ytlnehkjmmegkhaagreat", sum := "68d4f22379077e0a7840ecf8d06b695783b2e7b84c078c7bafa947328d334cfd", func := "paternoster/paternosterlaw12.NodesText", spec := "nodesText", inPlace := ["sync/atomic.LoadUint32", "(*internal/sync.Mutex).Lock", "internal/race.Disable", "sync/atomic.CompareAndSwapInt32", "internal/race.Enable", "internal/race.Acquire", "(*internal/sync.Mutex).lockSlow", "internal/sync.runtime_canSpin", "internal/sync.runtime_doSpin", "internal/sync.throw", "internal/sync.runtime_nanotime", "internal/sync.runtime_SemacquireMutex", "sync/atomic.AddInt32", "(*internal/sync.Mutex).Unlock", "internal/race.ReleaseMerge", "(*internal/sync.Mutex).unlockSlow", "internal/sync.fatal", "internal/sync.runtime_Semrelease", "sync/atomic.StoreUint32", "internal/abi.NoEscape"], unfollowed := true, recurses := true, apart := false }
def NodesTextSaid : Prop := nodesTextRow.holds Tryz.pinned (OpenSpec.ofChange nodesTextSpec)

/-- ITS FALSE NEIGHBOUR: 'it returns false'. Refute it at one input. -/
def nodesTextWrong : ChangeSpec := { name := "nodesText", fn := fun _ => fun
  | [d] => { results := [.lit (.bool false)], args := [d] }
  | _ => none }
def NodesTextWrongFalsely : Prop := nodesTextRow.holds Tryz.pinned (OpenSpec.ofChange nodesTextWrong)

/-- 'paternosterlaw12.NodesKnown': WHATEVER THE INPUT: true; the input reads as it did. -/
def nodesKnownSpec : ChangeSpec := { name := "nodesKnown", fn := fun _ => fun
  | [] => { results := [.lit (.bool true)], args := [] }
  | _ => none }
def nodesKnownRow : OpenClaim := { program := "ytlnehkjmmegkhaagreat", sum := "68d4f22379077e0a7840ecf8d06b695783b2e7b84c078c7bafa947328d334cfd", func := "paternoster/paternosterlaw12.NodesKnown", spec := "nodesKnown", inPlace := ["sync/atomic.LoadUint32", "(*internal/sync.Mutex).Lock", "internal/race.Disable", "sync/atomic.CompareAndSwapInt32", "internal/race.Enable", "internal/race.Acquire", "(*internal/sync.Mutex).lockSlow", "internal/sync.runtime_canSpin", "internal/sync.runtime_doSpin", "internal/sync.throw", "internal/sync.runtime_nanotime", "internal/sync.runtime_SemacquireMutex", "sync/atomic.AddInt32", "(*internal/sync.Mutex).Unlock", "internal/race.ReleaseMerge", "(*internal/sync.Mutex).unlockSlow", "internal/sync.fatal", "internal/sync.runtime_Semrelease", "sync/atomic.StoreUint32", "internal/abi.NoEscape"], unfollowed := true, recurses := true, apart := false }
def NodesKnownSaid : Prop := nodesKnownRow.holds Tryz.pinned (OpenSpec.ofChange nodesKnownSpec)

/-- ITS FALSE NEIGHBOUR: 'it returns false'. Refute it at one input. -/
def nodesKnownWrong : ChangeSpec := { name := "nodesKnown", fn := fun _ => fun
  | [] => { results := [.lit (.bool false)], args := [] }
  | _ => none }
def NodesKnownWrongFalsely : Prop := nodesKnownRow.holds Tryz.pinned (OpenSpec.ofChange nodesKnownWrong)

/-- 'paternosterlaw12.NodesCheck': WHATEVER THE INPUT: true; the input reads as it did. -/
def nodesCheckSpec : ChangeSpec := { name := "nodesCheck", fn := fun _ => fun
  | [d] => { results := [.lit (.bool true)], args := [d] }
  | _ => none }
def nodesCheckRow : OpenClaim := { program := "ytlnehkjmmegkhaagreat", sum := "68d4f22379077e0a7840ecf8d06b695783b2e7b84c078c7bafa947328d334cfd", func := "paternoster/paternosterlaw12.NodesCheck", spec := "nodesCheck", inPlace := ["sync/atomic.LoadUint32", "(*internal/sync.Mutex).Lock", "internal/race.Disable", "sync/atomic.CompareAndSwapInt32", "internal/race.Enable", "internal/race.Acquire", "(*internal/sync.Mutex).lockSlow", "internal/sync.runtime_canSpin", "internal/sync.runtime_doSpin", "internal/sync.throw", "internal/sync.runtime_nanotime", "internal/sync.runtime_SemacquireMutex", "sync/atomic.AddInt32", "(*internal/sync.Mutex).Unlock", "internal/race.ReleaseMerge", "(*internal/sync.Mutex).unlockSlow", "internal/sync.fatal", "internal/sync.runtime_Semrelease", "sync/atomic.StoreUint32", "internal/abi.NoEscape"], unfollowed := true, recurses := true, loops := true, apart := false }
def NodesCheckSaid : Prop := nodesCheckRow.holds Tryz.pinned (OpenSpec.ofChange nodesCheckSpec)

/-- ITS FALSE NEIGHBOUR: 'it returns false'. Refute it at one input. -/
def nodesCheckWrong : ChangeSpec := { name := "nodesCheck", fn := fun _ => fun
  | [d] => { results := [.lit (.bool false)], args := [d] }
  | _ => none }
def NodesCheckWrongFalsely : Prop := nodesCheckRow.holds Tryz.pinned (OpenSpec.ofChange nodesCheckWrong)

/-- 'paternosterlaw12.NodesSame': WHATEVER THE INPUT: true; the input reads as it did. -/
def nodesSameSpec : ChangeSpec := { name := "nodesSame", fn := fun _ => fun
  | [d1, d2] => { results := [.lit (.bool true)], args := [d1, d2] }
  | _ => none }
def nodesSameRow : OpenClaim := { program := "ytlnehkjmmegkhaagreat", sum := "68d4f22379077e0a7840ecf8d06b695783b2e7b84c078c7bafa947328d334cfd", func := "paternoster/paternosterlaw12.NodesSame", spec := "nodesSame", inPlace := ["sync/atomic.LoadUint32", "(*internal/sync.Mutex).Lock", "internal/race.Disable", "sync/atomic.CompareAndSwapInt32", "internal/race.Enable", "internal/race.Acquire", "(*internal/sync.Mutex).lockSlow", "internal/sync.runtime_canSpin", "internal/sync.runtime_doSpin", "internal/sync.throw", "internal/sync.runtime_nanotime", "internal/sync.runtime_SemacquireMutex", "sync/atomic.AddInt32", "(*internal/sync.Mutex).Unlock", "internal/race.ReleaseMerge", "(*internal/sync.Mutex).unlockSlow", "internal/sync.fatal", "internal/sync.runtime_Semrelease", "sync/atomic.StoreUint32", "internal/abi.NoEscape"], unfollowed := true, recurses := true, apart := false }
def NodesSameSaid : Prop := nodesSameRow.holds Tryz.pinned (OpenSpec.ofChange nodesSameSpec)

/-- ITS FALSE NEIGHBOUR: 'it returns false'. Refute it at one input. -/
def nodesSameWrong : ChangeSpec := { name := "nodesSame", fn := fun _ => fun
  | [d1, d2] => { results := [.lit (.bool false)], args := [d1, d2] }
  | _ => none }
def NodesSameWrongFalsely : Prop := nodesSameRow.holds Tryz.pinned (OpenSpec.ofChange nodesSameWrong)

/- THE SECOND FORM. 'bulk': how many values and letters a reading holds, each counted each time it is reached (what is shared counts as often as it is met; a slice's spare places count too). A statement '..UptoSaid' is the law's where the arguments, and the package variables that the reading takes, are together of bulk at most 1048576: NARROWER than '..Said'. Prove '..Said' where nothing that the law and all that it calls make is longer than what came in: it says more and counts as full. Else prove '..UptoSaid'. A law counts once. -/
mutual
def uptoBulk {H : Type} : DataW H → Nat
  | .lit (.string bytes) => bytes.length + 1
  | .lit _ => 1
  | .nil => 1
  | .ptr d => uptoBulk d + 1
  | .slice elems spare => uptoBulkAll elems + uptoBulkAll spare + 1
  | .agg parts => uptoBulkAll parts + 1
  | .iface _ d => uptoBulk d + 1
  | .map entries => uptoBulkEntries entries + 1
  | .held _ => 1
def uptoBulkAll {H : Type} : List (DataW H) → Nat
  | [] => 0
  | d :: r => uptoBulk d + uptoBulkAll r
def uptoBulkEntries {H : Type} : List (Lit × DataW H) → Nat
  | [] => 0
  | x :: r => uptoBulkEntry x + uptoBulkEntries r
def uptoBulkEntry {H : Type} : Lit × DataW H → Nat
  | (.string bytes, d) => bytes.length + uptoBulk d + 1
  | (_, d) => uptoBulk d + 1
 end
def uptoSmall : (H : Type) → List (DataW H) → Bool := fun _ ds => decide (uptoBulkAll ds ≤ 1048576)
def OpenSpec.upto (s : _root_.Go.ChangeSpec) : _root_.Go.OpenSpec := { _root_.Go.OpenSpec.ofChange s with cond := some uptoSmall }

/-- 'paternosterlaw12.NodesAt', WHERE WHAT IT READS IS OF BULK AT MOST 1048576: true; the input reads as it did. -/
def nodesAtUptoRow : OpenClaim := { program := "ytlnehkjmmegkhaagreat", sum := "68d4f22379077e0a7840ecf8d06b695783b2e7b84c078c7bafa947328d334cfd", func := "paternoster/paternosterlaw12.NodesAt", spec := "nodesAt", inPlace := ["sync/atomic.LoadUint32", "(*internal/sync.Mutex).Lock", "internal/race.Disable", "sync/atomic.CompareAndSwapInt32", "internal/race.Enable", "internal/race.Acquire", "(*internal/sync.Mutex).lockSlow", "internal/sync.runtime_canSpin", "internal/sync.runtime_doSpin", "internal/sync.throw", "internal/sync.runtime_nanotime", "internal/sync.runtime_SemacquireMutex", "sync/atomic.AddInt32", "(*internal/sync.Mutex).Unlock", "internal/race.ReleaseMerge", "(*internal/sync.Mutex).unlockSlow", "internal/sync.fatal", "internal/sync.runtime_Semrelease", "sync/atomic.StoreUint32", "internal/abi.NoEscape"], unfollowed := true, recurses := true, apart := false, narrowed := true }
def NodesAtUptoSaid : Prop := nodesAtUptoRow.holds Tryz.pinned (OpenSpec.upto nodesAtSpec)

/-- 'paternosterlaw14.TemplatesRender', WHERE WHAT IT READS IS OF BULK AT MOST 1048576: true; the input reads as it did. -/
def templatesRenderUptoRow : OpenClaim := { program := "ytlnehkjmmegkhaagreat", sum := "68d4f22379077e0a7840ecf8d06b695783b2e7b84c078c7bafa947328d334cfd", func := "paternoster/paternosterlaw14.TemplatesRender", spec := "templatesRender", inPlace := ["sync/atomic.LoadUint32", "(*internal/sync.Mutex).Lock", "internal/race.Disable", "sync/atomic.CompareAndSwapInt32", "internal/race.Enable", "internal/race.Acquire", "(*internal/sync.Mutex).lockSlow", "internal/sync.runtime_canSpin", "internal/sync.runtime_doSpin", "internal/sync.throw", "internal/sync.runtime_nanotime", "internal/sync.runtime_SemacquireMutex", "sync/atomic.AddInt32", "(*internal/sync.Mutex).Unlock", "internal/race.ReleaseMerge", "(*internal/sync.Mutex).unlockSlow", "internal/sync.fatal", "internal/sync.runtime_Semrelease", "sync/atomic.StoreUint32", "internal/abi.NoEscape"], unfollowed := true, recurses := true, apart := false, narrowed := true }
def TemplatesRenderUptoSaid : Prop := templatesRenderUptoRow.holds Tryz.pinned (OpenSpec.upto templatesRenderSpec)

/-- 'paternosterlaw14.TemplatesUses', WHERE WHAT IT READS IS OF BULK AT MOST 1048576: true; the input reads as it did. -/
def templatesUsesUptoRow : OpenClaim := { program := "ytlnehkjmmegkhaagreat", sum := "68d4f22379077e0a7840ecf8d06b695783b2e7b84c078c7bafa947328d334cfd", func := "paternoster/paternosterlaw14.TemplatesUses", spec := "templatesUses", inPlace := ["sync/atomic.LoadUint32", "(*internal/sync.Mutex).Lock", "internal/race.Disable", "sync/atomic.CompareAndSwapInt32", "internal/race.Enable", "internal/race.Acquire", "(*internal/sync.Mutex).lockSlow", "internal/sync.runtime_canSpin", "internal/sync.runtime_doSpin", "internal/sync.throw", "internal/sync.runtime_nanotime", "internal/sync.runtime_SemacquireMutex", "sync/atomic.AddInt32", "(*internal/sync.Mutex).Unlock", "internal/race.ReleaseMerge", "(*internal/sync.Mutex).unlockSlow", "internal/sync.fatal", "internal/sync.runtime_Semrelease", "sync/atomic.StoreUint32", "internal/abi.NoEscape"], unfollowed := true, recurses := true, apart := false, narrowed := true }
def TemplatesUsesUptoSaid : Prop := templatesUsesUptoRow.holds Tryz.pinned (OpenSpec.upto templatesUsesSpec)

/-- 'paternosterlaw14.TemplatesCheck', WHERE WHAT IT READS IS OF BULK AT MOST 1048576: true; the input reads as it did. -/
def templatesCheckUptoRow : OpenClaim := { program := "ytlnehkjmmegkhaagreat", sum := "68d4f22379077e0a7840ecf8d06b695783b2e7b84c078c7bafa947328d334cfd", func := "paternoster/paternosterlaw14.TemplatesCheck", spec := "templatesCheck", inPlace := ["sync/atomic.LoadUint32", "(*internal/sync.Mutex).Lock", "internal/race.Disable", "sync/atomic.CompareAndSwapInt32", "internal/race.Enable", "internal/race.Acquire", "(*internal/sync.Mutex).lockSlow", "internal/sync.runtime_canSpin", "internal/sync.runtime_doSpin", "internal/sync.throw", "internal/sync.runtime_nanotime", "internal/sync.runtime_SemacquireMutex", "sync/atomic.AddInt32", "(*internal/sync.Mutex).Unlock", "internal/race.ReleaseMerge", "(*internal/sync.Mutex).unlockSlow", "internal/sync.fatal", "internal/sync.runtime_Semrelease", "sync/atomic.StoreUint32", "internal/abi.NoEscape"], unfollowed := true, recurses := true, loops := true, apart := false, narrowed := true }
def TemplatesCheckUptoSaid : Prop := templatesCheckUptoRow.holds Tryz.pinned (OpenSpec.upto templatesCheckSpec)

/-- 'paternosterlaw14.TemplatesErrors', WHERE WHAT IT READS IS OF BULK AT MOST 1048576: true; the input reads as it did. -/
def templatesErrorsUptoRow : OpenClaim := { program := "ytlnehkjmmegkhaagreat", sum := "68d4f22379077e0a7840ecf8d06b695783b2e7b84c078c7bafa947328d334cfd", func := "paternoster/paternosterlaw14.TemplatesErrors", spec := "templatesErrors", inPlace := ["sync/atomic.LoadUint32", "(*internal/sync.Mutex).Lock", "internal/race.Disable", "sync/atomic.CompareAndSwapInt32", "internal/race.Enable", "internal/race.Acquire", "(*internal/sync.Mutex).lockSlow", "internal/sync.runtime_canSpin", "internal/sync.runtime_doSpin", "internal/sync.throw", "internal/sync.runtime_nanotime", "internal/sync.runtime_SemacquireMutex", "sync/atomic.AddInt32", "(*internal/sync.Mutex).Unlock", "internal/race.ReleaseMerge", "(*internal/sync.Mutex).unlockSlow", "internal/sync.fatal", "internal/sync.runtime_Semrelease", "sync/atomic.StoreUint32", "internal/abi.NoEscape"], unfollowed := true, recurses := true, apart := false, narrowed := true }
def TemplatesErrorsUptoSaid : Prop := templatesErrorsUptoRow.holds Tryz.pinned (OpenSpec.upto templatesErrorsSpec)

/-- 'paternosterlaw14.TemplatesKnown', WHERE WHAT IT READS IS OF BULK AT MOST 1048576: true; the input reads as it did. -/
def templatesKnownUptoRow : OpenClaim := { program := "ytlnehkjmmegkhaagreat", sum := "68d4f22379077e0a7840ecf8d06b695783b2e7b84c078c7bafa947328d334cfd", func := "paternoster/paternosterlaw14.TemplatesKnown", spec := "templatesKnown", inPlace := ["sync/atomic.LoadUint32", "(*internal/sync.Mutex).Lock", "internal/race.Disable", "sync/atomic.CompareAndSwapInt32", "internal/race.Enable", "internal/race.Acquire", "(*internal/sync.Mutex).lockSlow", "internal/sync.runtime_canSpin", "internal/sync.runtime_doSpin", "internal/sync.throw", "internal/sync.runtime_nanotime", "internal/sync.runtime_SemacquireMutex", "sync/atomic.AddInt32", "(*internal/sync.Mutex).Unlock", "internal/race.ReleaseMerge", "(*internal/sync.Mutex).unlockSlow", "internal/sync.fatal", "internal/sync.runtime_Semrelease", "sync/atomic.StoreUint32", "internal/abi.NoEscape"], unfollowed := true, recurses := true, apart := false, narrowed := true }
def TemplatesKnownUptoSaid : Prop := templatesKnownUptoRow.holds Tryz.pinned (OpenSpec.upto templatesKnownSpec)

/-- 'paternosterlaw12.NodesText', WHERE WHAT IT READS IS OF BULK AT MOST 1048576: true; the input reads as it did. -/
def nodesTextUptoRow : OpenClaim := { program := "ytlnehkjmmegkhaagreat", sum := "68d4f22379077e0a7840ecf8d06b695783b2e7b84c078c7bafa947328d334cfd", func := "paternoster/paternosterlaw12.NodesText", spec := "nodesText", inPlace := ["sync/atomic.LoadUint32", "(*internal/sync.Mutex).Lock", "internal/race.Disable", "sync/atomic.CompareAndSwapInt32", "internal/race.Enable", "internal/race.Acquire", "(*internal/sync.Mutex).lockSlow", "internal/sync.runtime_canSpin", "internal/sync.runtime_doSpin", "internal/sync.throw", "internal/sync.runtime_nanotime", "internal/sync.runtime_SemacquireMutex", "sync/atomic.AddInt32", "(*internal/sync.Mutex).Unlock", "internal/race.ReleaseMerge", "(*internal/sync.Mutex).unlockSlow", "internal/sync.fatal", "internal/sync.runtime_Semrelease", "sync/atomic.StoreUint32", "internal/abi.NoEscape"], unfollowed := true, recurses := true, apart := false, narrowed := true }
def NodesTextUptoSaid : Prop := nodesTextUptoRow.holds Tryz.pinned (OpenSpec.upto nodesTextSpec)

/-- 'paternosterlaw12.NodesKnown', WHERE WHAT IT READS IS OF BULK AT MOST 1048576: true; the input reads as it did. -/
def nodesKnownUptoRow : OpenClaim := { program := "ytlnehkjmmegkhaagreat", sum := "68d4f22379077e0a7840ecf8d06b695783b2e7b84c078c7bafa947328d334cfd", func := "paternoster/paternosterlaw12.NodesKnown", spec := "nodesKnown", inPlace := ["sync/atomic.LoadUint32", "(*internal/sync.Mutex).Lock", "internal/race.Disable", "sync/atomic.CompareAndSwapInt32", "internal/race.Enable", "internal/race.Acquire", "(*internal/sync.Mutex).lockSlow", "internal/sync.runtime_canSpin", "internal/sync.runtime_doSpin", "internal/sync.throw", "internal/sync.runtime_nanotime", "internal/sync.runtime_SemacquireMutex", "sync/atomic.AddInt32", "(*internal/sync.Mutex).Unlock", "internal/race.ReleaseMerge", "(*internal/sync.Mutex).unlockSlow", "internal/sync.fatal", "internal/sync.runtime_Semrelease", "sync/atomic.StoreUint32", "internal/abi.NoEscape"], unfollowed := true, recurses := true, apart := false, narrowed := true }
def NodesKnownUptoSaid : Prop := nodesKnownUptoRow.holds Tryz.pinned (OpenSpec.upto nodesKnownSpec)

/-- 'paternosterlaw12.NodesCheck', WHERE WHAT IT READS IS OF BULK AT MOST 1048576: true; the input reads as it did. -/
def nodesCheckUptoRow : OpenClaim := { program := "ytlnehkjmmegkhaagreat", sum := "68d4f22379077e0a7840ecf8d06b695783b2e7b84c078c7bafa947328d334cfd", func := "paternoster/paternosterlaw12.NodesCheck", spec := "nodesCheck", inPlace := ["sync/atomic.LoadUint32", "(*internal/sync.Mutex).Lock", "internal/race.Disable", "sync/atomic.CompareAndSwapInt32", "internal/race.Enable", "internal/race.Acquire", "(*internal/sync.Mutex).lockSlow", "internal/sync.runtime_canSpin", "internal/sync.runtime_doSpin", "internal/sync.throw", "internal/sync.runtime_nanotime", "internal/sync.runtime_SemacquireMutex", "sync/atomic.AddInt32", "(*internal/sync.Mutex).Unlock", "internal/race.ReleaseMerge", "(*internal/sync.Mutex).unlockSlow", "internal/sync.fatal", "internal/sync.runtime_Semrelease", "sync/atomic.StoreUint32", "internal/abi.NoEscape"], unfollowed := true, recurses := true, loops := true, apart := false, narrowed := true }
def NodesCheckUptoSaid : Prop := nodesCheckUptoRow.holds Tryz.pinned (OpenSpec.upto nodesCheckSpec)

/-- 'paternosterlaw12.NodesSame', WHERE WHAT IT READS IS OF BULK AT MOST 1048576: true; the input reads as it did. -/
def nodesSameUptoRow : OpenClaim := { program := "ytlnehkjmmegkhaagreat", sum := "68d4f22379077e0a7840ecf8d06b695783b2e7b84c078c7bafa947328d334cfd", func := "paternoster/paternosterlaw12.NodesSame", spec := "nodesSame", inPlace := ["sync/atomic.LoadUint32", "(*internal/sync.Mutex).Lock", "internal/race.Disable", "sync/atomic.CompareAndSwapInt32", "internal/race.Enable", "internal/race.Acquire", "(*internal/sync.Mutex).lockSlow", "internal/sync.runtime_canSpin", "internal/sync.runtime_doSpin", "internal/sync.throw", "internal/sync.runtime_nanotime", "internal/sync.runtime_SemacquireMutex", "sync/atomic.AddInt32", "(*internal/sync.Mutex).Unlock", "internal/race.ReleaseMerge", "(*internal/sync.Mutex).unlockSlow", "internal/sync.fatal", "internal/sync.runtime_Semrelease", "sync/atomic.StoreUint32", "internal/abi.NoEscape"], unfollowed := true, recurses := true, apart := false, narrowed := true }
def NodesSameUptoSaid : Prop := nodesSameUptoRow.holds Tryz.pinned (OpenSpec.upto nodesSameSpec)

end Rows
end Go.Proofs.YtlnehkjmmegkhaaGreat
