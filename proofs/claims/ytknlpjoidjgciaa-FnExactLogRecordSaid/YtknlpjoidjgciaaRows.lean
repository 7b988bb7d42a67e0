/-
  No cell of these rows narrows 'for every input' (looked for: loops, veiled, ifaces, maps, wideKeys, modest, calm, conditions, laid).
  DERIVED. THE GIVEN ROWS OF THIS SEAT. 4 by the template 'for every input the law returns true; each argument reads behind the call as it read before'; 0 by the template 'total and deterministic' (their statements: YtknlpjoidjgciaaTotals.lean).
  GIVEN WITH THE SEED: the statements are not yours to turn. If you find one false, say at which input.
  Laid BY PROGRAM, IN A SANDBOX (cutbox-rows.mjs): the forced cells as the released guide's own fill.sh prints them over the translation 3e161b46a34ebb7e… (all of the seat's roots in one cut). By AI agents, Wed Nov 11 2026. No macro, syntax, notation, axiom, sorry.
-/
import Derived.Test.YtknlpjoidjgciaaChecked
import GoSem.Claim
import GoSem.ClaimJoined
import GoSem.ClaimMapViews
import Derived.JoinedTies
import Derived.KernelRfl
namespace Go.Proofs.Ytknlpjoidjgciaa
/- THE CELL 'sum', in the pinned program and in every row, IS THE sha256 OF THE DUMP (.gsa) THAT YtknlpjoidjgciaaProg.lean LOADS. Nothing in Lean hashes anything: it is a label: what it is worth is what the hold of that sum in a sandbox is worth. -/
noncomputable def Try.pinned : Pinned := { name := "ytknlpjoidjgciaa", sum := "3e161b46a34ebb7e7578b4199135a042a914c24b3d550517d3b06a686884f6ee", checked := Try.checked }
namespace Rows
def none {H : Type} : Left H := { results := [], args := [] }

/-- 'laws.FnExactMayAccess': WHATEVER THE INPUT: true; the input reads as it did. -/
def fnExactMayAccessSpec : ChangeSpec := { name := "fnExactMayAccess", fn := fun _ => fun
  | [d1, d2, d3, d4] => { results := [.lit (.bool true)], args := [d1, d2, d3, d4] }
  | _ => none }
def fnExactMayAccessRow : OpenClaim := { program := "ytknlpjoidjgciaa", sum := "3e161b46a34ebb7e7578b4199135a042a914c24b3d550517d3b06a686884f6ee", func := "loop.example/s02533/laws.FnExactMayAccess", spec := "fnExactMayAccess", apart := false }
def FnExactMayAccessSaid : Prop := fnExactMayAccessRow.holds Try.pinned (OpenSpec.ofChange fnExactMayAccessSpec)

/-- ITS FALSE NEIGHBOUR: 'it returns false'. Refute it at one input. -/
def fnExactMayAccessWrong : ChangeSpec := { name := "fnExactMayAccess", fn := fun _ => fun
  | [d1, d2, d3, d4] => { results := [.lit (.bool false)], args := [d1, d2, d3, d4] }
  | _ => none }
def FnExactMayAccessWrongFalsely : Prop := fnExactMayAccessRow.holds Try.pinned (OpenSpec.ofChange fnExactMayAccessWrong)

/-- 'laws.FnExactNewState': WHATEVER THE INPUT: true; the input reads as it did. -/
def fnExactNewStateSpec : ChangeSpec := { name := "fnExactNewState", fn := fun _ => fun
  | [] => { results := [.lit (.bool true)], args := [] }
  | _ => none }
def fnExactNewStateRow : OpenClaim := { program := "ytknlpjoidjgciaa", sum := "3e161b46a34ebb7e7578b4199135a042a914c24b3d550517d3b06a686884f6ee", func := "loop.example/s02533/laws.FnExactNewState", spec := "fnExactNewState", apart := false }
def FnExactNewStateSaid : Prop := fnExactNewStateRow.holds Try.pinned (OpenSpec.ofChange fnExactNewStateSpec)

/-- ITS FALSE NEIGHBOUR: 'it returns false'. Refute it at one input. -/
def fnExactNewStateWrong : ChangeSpec := { name := "fnExactNewState", fn := fun _ => fun
  | [] => { results := [.lit (.bool false)], args := [] }
  | _ => none }
def FnExactNewStateWrongFalsely : Prop := fnExactNewStateRow.holds Try.pinned (OpenSpec.ofChange fnExactNewStateWrong)

/-- 'laws.FnExactEncodeOp': WHATEVER THE INPUT: true; the input reads as it did. -/
def fnExactEncodeOpSpec : ChangeSpec := { name := "fnExactEncodeOp", fn := fun _ => fun
  | [d] => { results := [.lit (.bool true)], args := [d] }
  | _ => none }
def fnExactEncodeOpRow : OpenClaim := { program := "ytknlpjoidjgciaa", sum := "3e161b46a34ebb7e7578b4199135a042a914c24b3d550517d3b06a686884f6ee", func := "loop.example/s02533/laws.FnExactEncodeOp", spec := "fnExactEncodeOp", apart := false }
def FnExactEncodeOpSaid : Prop := fnExactEncodeOpRow.holds Try.pinned (OpenSpec.ofChange fnExactEncodeOpSpec)

/-- ITS FALSE NEIGHBOUR: 'it returns false'. Refute it at one input. -/
def fnExactEncodeOpWrong : ChangeSpec := { name := "fnExactEncodeOp", fn := fun _ => fun
  | [d] => { results := [.lit (.bool false)], args := [d] }
  | _ => none }
def FnExactEncodeOpWrongFalsely : Prop := fnExactEncodeOpRow.holds Try.pinned (OpenSpec.ofChange fnExactEncodeOpWrong)

/-- 'laws.FnExactLogRecord': WHATEVER THE INPUT: true; the input reads as it did. -/
def fnExactLogRecordSpec : ChangeSpec := { name := "fnExactLogRecord", fn := fun _ => fun
  | [d1, d2] => { results := [.lit (.bool true)], args := [d1, d2] }
  | _ => none }
def fnExactLogRecordRow : OpenClaim := { program := "ytknlpjoidjgciaa", sum := "3e161b46a34ebb7e7578b4199135a042a914c24b3d550517d3b06a686884f6ee", func := "loop.example/s02533/laws.FnExactLogRecord", spec := "fnExactLogRecord", apart := false }
def FnExactLogRecordSaid : Prop := fnExactLogRecordRow.holds Try.pinned (OpenSpec.ofChange fnExactLogRecordSpec)

/-- ITS FALSE NEIGHBOUR: 'it returns false'. Refute it at one input. -/
def fnExactLogRecordWrong : ChangeSpec := { name := "fnExactLogRecord", fn := fun _ => fun
  | [d1, d2] => { results := [.lit (.bool false)], args := [d1, d2] }
  | _ => none }
def FnExactLogRecordWrongFalsely : Prop := fnExactLogRecordRow.holds Try.pinned (OpenSpec.ofChange fnExactLogRecordWrong)

/- THE SECOND FORM. 'bulk': how many values and letters a reading holds, each counted each time it is reached (what is shared counts as often as it is met; a slice's spare places count too). A statement '..UptoSaid' is the law's where the arguments, and the package variables that the reading takes, are together of bulk at most 1048576: NARROWER than '..Said'. Prove '..Said' where nothing that the law and all that it calls make is longer than what came in: it says more and counts as full. Else prove '..UptoSaid'. A law counts once. -/
mutual
def uptoBulk {H : Type} : DataW H → Nat
  | .lit (.string bytes) => bytes.length + 1
  | .lit _ => 1
  | .nil => 1
  | .ptr d => uptoBulk d + 1
  | .slice elems spare => uptoBulkAll elems + uptoBulkAll spare + 1
  | .agg parts => uptoBulkAll parts + 1
  | .iface _ d => uptoBulk d + 1
  | .map entries => uptoBulkEntries entries + 1
  | .held _ => 1
def uptoBulkAll {H : Type} : List (DataW H) → Nat
  | [] => 0
  | d :: r => uptoBulk d + uptoBulkAll r
def uptoBulkEntries {H : Type} : List (Lit × DataW H) → Nat
  | [] => 0
  | x :: r => uptoBulkEntry x + uptoBulkEntries r
def uptoBulkEntry {H : Type} : Lit × DataW H → Nat
  | (.string bytes, d) => bytes.length + uptoBulk d + 1
  | (_, d) => uptoBulk d + 1
 end
def uptoSmall : (H : Type) → List (DataW H) → Bool := fun _ ds => decide (uptoBulkAll ds ≤ 1048576)
def OpenSpec.upto (s : _root_.Go.ChangeSpec) : _root_.Go.OpenSpec := { _root_.Go.OpenSpec.ofChange s with cond := some uptoSmall }

/-- 'laws.FnExactMayAccess', WHERE WHAT IT READS IS OF BULK AT MOST 1048576: true; the input reads as it did. -/
def fnExactMayAccessUptoRow : OpenClaim := { program := "ytknlpjoidjgciaa", sum := "3e161b46a34ebb7e7578b4199135a042a914c24b3d550517d3b06a686884f6ee", func := "loop.example/s02533/laws.FnExactMayAccess", spec := "fnExactMayAccess", apart := false, narrowed := true }
def FnExactMayAccessUptoSaid : Prop := fnExactMayAccessUptoRow.holds Try.pinned (OpenSpec.upto fnExactMayAccessSpec)

/-- 'laws.FnExactNewState', WHERE WHAT IT READS IS OF BULK AT MOST 1048576: true; the input reads as it did. -/
def fnExactNewStateUptoRow : OpenClaim := { program := "ytknlpjoidjgciaa", sum := "3e161b46a34ebb7e7578b4199135a042a914c24b3d550517d3b06a686884f6ee", func := "loop.example/s02533/laws.FnExactNewState", spec := "fnExactNewState", apart := false, narrowed := true }
def FnExactNewStateUptoSaid : Prop := fnExactNewStateUptoRow.holds Try.pinned (OpenSpec.upto fnExactNewStateSpec)

/-- 'laws.FnExactEncodeOp', WHERE WHAT IT READS IS OF BULK AT MOST 1048576: true; the input reads as it did. -/
def fnExactEncodeOpUptoRow : OpenClaim := { program := "ytknlpjoidjgciaa", sum := "3e161b46a34ebb7e7578b4199135a042a914c24b3d550517d3b06a686884f6ee", func := "loop.example/s02533/laws.FnExactEncodeOp", spec := "fnExactEncodeOp", apart := false, narrowed := true }
def FnExactEncodeOpUptoSaid : Prop := fnExactEncodeOpUptoRow.holds Try.pinned (OpenSpec.upto fnExactEncodeOpSpec)

/-- 'laws.FnExactLogRecord', WHERE WHAT IT READS IS OF BULK AT MOST 1048576: true; the input reads as it did. -/
def fnExactLogRecordUptoRow : OpenClaim := { program := "ytknlpjoidjgciaa", sum := "3e161b46a34ebb7e7578b4199135a042a914c24b3d550517d3b06a686884f6ee", func := "loop.example/s02533/laws.FnExactLogRecord", spec := "fnExactLogRecord", apart := false, narrowed := true }
def FnExactLogRecordUptoSaid : Prop := fnExactLogRecordUptoRow.holds Try.pinned (OpenSpec.upto fnExactLogRecordSpec)

end Rows
end Go.Proofs.Ytknlpjoidjgciaa
