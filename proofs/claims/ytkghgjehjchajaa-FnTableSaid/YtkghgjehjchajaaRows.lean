/-
  No cell of these rows narrows 'for every input' (looked for: loops, veiled, ifaces, maps, wideKeys, modest, calm, conditions, laid).
  DERIVED. THE GIVEN ROWS OF THIS SEAT. 8 by the template 'for every input the law returns true; each argument reads behind the call as it read before'; 0 by the template 'total and deterministic' (their statements: YtkghgjehjchajaaTotals.lean).
  GIVEN WITH THE SEED: the statements are not yours to turn. If you find one false, say at which input.
  Laid BY PROGRAM, IN A SANDBOX (cutbox-rows.mjs): the forced cells as the released guide's own fill.sh prints them over the translation 875692916322b171… (all of the seat's roots in one cut). By AI agents, Wed Nov 11 2026. No macro, syntax, notation, axiom, sorry.
-/
import Derived.Test.YtkghgjehjchajaaChecked
import GoSem.Claim
import GoSem.ClaimJoined
import GoSem.ClaimMapViews
import Derived.JoinedTies
import Derived.KernelRfl
namespace Go.Proofs.Ytkghgjehjchajaa
/- THE CELL 'sum', in the pinned program and in every row, IS THE sha256 OF THE DUMP (.gsa) THAT YtkghgjehjchajaaProg.lean LOADS. Nothing in Lean hashes anything: it is a label: what it is worth is what the hold of that sum in a sandbox is worth. -/
noncomputable def Try.pinned : Pinned := { name := "ytkghgjehjchajaa", sum := "875692916322b171fe73dbaa4da021ba22b110a1805aaf6cddd3c08f98d632ff", checked := Try.checked }
namespace Rows
def none {H : Type} : Left H := { results := [], args := [] }

/-- 'laws.FnExactEncodeRoot': WHATEVER THE INPUT: true; the input reads as it did. -/
def fnExactEncodeRootSpec : ChangeSpec := { name := "fnExactEncodeRoot", fn := fun _ => fun
  | [d] => { results := [.lit (.bool true)], args := [d] }
  | _ => none }
def fnExactEncodeRootRow : OpenClaim := { program := "ytkghgjehjchajaa", sum := "875692916322b171fe73dbaa4da021ba22b110a1805aaf6cddd3c08f98d632ff", func := "loop.example/s02533/laws.FnExactEncodeRoot", spec := "fnExactEncodeRoot", apart := false }
def FnExactEncodeRootSaid : Prop := fnExactEncodeRootRow.holds Try.pinned (OpenSpec.ofChange fnExactEncodeRootSpec)

/-- ITS FALSE NEIGHBOUR: 'it returns false'. Refute it at one input. -/
def fnExactEncodeRootWrong : ChangeSpec := { name := "fnExactEncodeRoot", fn := fun _ => fun
  | [d] => { results := [.lit (.bool false)], args := [d] }
  | _ => none }
def FnExactEncodeRootWrongFalsely : Prop := fnExactEncodeRootRow.holds Try.pinned (OpenSpec.ofChange fnExactEncodeRootWrong)

/-- 'laws.FnExactDecodeRoot': WHATEVER THE INPUT: true; the input reads as it did. -/
def fnExactDecodeRootSpec : ChangeSpec := { name := "fnExactDecodeRoot", fn := fun _ => fun
  | [d] => { results := [.lit (.bool true)], args := [d] }
  | _ => none }
def fnExactDecodeRootRow : OpenClaim := { program := "ytkghgjehjchajaa", sum := "875692916322b171fe73dbaa4da021ba22b110a1805aaf6cddd3c08f98d632ff", func := "loop.example/s02533/laws.FnExactDecodeRoot", spec := "fnExactDecodeRoot", unfollowed := true, recurses := true, apart := false }
def FnExactDecodeRootSaid : Prop := fnExactDecodeRootRow.holds Try.pinned (OpenSpec.ofChange fnExactDecodeRootSpec)

/-- ITS FALSE NEIGHBOUR: 'it returns false'. Refute it at one input. -/
def fnExactDecodeRootWrong : ChangeSpec := { name := "fnExactDecodeRoot", fn := fun _ => fun
  | [d] => { results := [.lit (.bool false)], args := [d] }
  | _ => none }
def FnExactDecodeRootWrongFalsely : Prop := fnExactDecodeRootRow.holds Try.pinned (OpenSpec.ofChange fnExactDecodeRootWrong)

/-- 'laws.FnExactEncodeInode': WHATEVER THE INPUT: true; the input reads as it did. -/
def fnExactEncodeInodeSpec : ChangeSpec := { name := "fnExactEncodeInode", fn := fun _ => fun
  | [d] => { results := [.lit (.bool true)], args := [d] }
  | _ => none }
def fnExactEncodeInodeRow : OpenClaim := { program := "ytkghgjehjchajaa", sum := "875692916322b171fe73dbaa4da021ba22b110a1805aaf6cddd3c08f98d632ff", func := "loop.example/s02533/laws.FnExactEncodeInode", spec := "fnExactEncodeInode", apart := false }
def FnExactEncodeInodeSaid : Prop := fnExactEncodeInodeRow.holds Try.pinned (OpenSpec.ofChange fnExactEncodeInodeSpec)

/-- ITS FALSE NEIGHBOUR: 'it returns false'. Refute it at one input. -/
def fnExactEncodeInodeWrong : ChangeSpec := { name := "fnExactEncodeInode", fn := fun _ => fun
  | [d] => { results := [.lit (.bool false)], args := [d] }
  | _ => none }
def FnExactEncodeInodeWrongFalsely : Prop := fnExactEncodeInodeRow.holds Try.pinned (OpenSpec.ofChange fnExactEncodeInodeWrong)

/-- 'laws.FnExactDecodeInode': WHATEVER THE INPUT: true; the input reads as it did. -/
def fnExactDecodeInodeSpec : ChangeSpec := { name := "fnExactDecodeInode", fn := fun _ => fun
  | [d] => { results := [.lit (.bool true)], args := [d] }
  | _ => none }
def fnExactDecodeInodeRow : OpenClaim := { program := "ytkghgjehjchajaa", sum := "875692916322b171fe73dbaa4da021ba22b110a1805aaf6cddd3c08f98d632ff", func := "loop.example/s02533/laws.FnExactDecodeInode", spec := "fnExactDecodeInode", unfollowed := true, recurses := true, apart := false }
def FnExactDecodeInodeSaid : Prop := fnExactDecodeInodeRow.holds Try.pinned (OpenSpec.ofChange fnExactDecodeInodeSpec)

/-- ITS FALSE NEIGHBOUR: 'it returns false'. Refute it at one input. -/
def fnExactDecodeInodeWrong : ChangeSpec := { name := "fnExactDecodeInode", fn := fun _ => fun
  | [d] => { results := [.lit (.bool false)], args := [d] }
  | _ => none }
def FnExactDecodeInodeWrongFalsely : Prop := fnExactDecodeInodeRow.holds Try.pinned (OpenSpec.ofChange fnExactDecodeInodeWrong)

/-- 'laws.FnExactEncodeTable': WHATEVER THE INPUT: true; the input reads as it did. -/
def fnExactEncodeTableSpec : ChangeSpec := { name := "fnExactEncodeTable", fn := fun _ => fun
  | [d] => { results := [.lit (.bool true)], args := [d] }
  | _ => none }
def fnExactEncodeTableRow : OpenClaim := { program := "ytkghgjehjchajaa", sum := "875692916322b171fe73dbaa4da021ba22b110a1805aaf6cddd3c08f98d632ff", func := "loop.example/s02533/laws.FnExactEncodeTable", spec := "fnExactEncodeTable", apart := false }
def FnExactEncodeTableSaid : Prop := fnExactEncodeTableRow.holds Try.pinned (OpenSpec.ofChange fnExactEncodeTableSpec)

/-- ITS FALSE NEIGHBOUR: 'it returns false'. Refute it at one input. -/
def fnExactEncodeTableWrong : ChangeSpec := { name := "fnExactEncodeTable", fn := fun _ => fun
  | [d] => { results := [.lit (.bool false)], args := [d] }
  | _ => none }
def FnExactEncodeTableWrongFalsely : Prop := fnExactEncodeTableRow.holds Try.pinned (OpenSpec.ofChange fnExactEncodeTableWrong)

/-- 'laws.FnExactDecodeTable': WHATEVER THE INPUT: true; the input reads as it did. -/
def fnExactDecodeTableSpec : ChangeSpec := { name := "fnExactDecodeTable", fn := fun _ => fun
  | [d] => { results := [.lit (.bool true)], args := [d] }
  | _ => none }
def fnExactDecodeTableRow : OpenClaim := { program := "ytkghgjehjchajaa", sum := "875692916322b171fe73dbaa4da021ba22b110a1805aaf6cddd3c08f98d632ff", func := "loop.example/s02533/laws.FnExactDecodeTable", spec := "fnExactDecodeTable", unfollowed := true, recurses := true, apart := false }
def FnExactDecodeTableSaid : Prop := fnExactDecodeTableRow.holds Try.pinned (OpenSpec.ofChange fnExactDecodeTableSpec)

/-- ITS FALSE NEIGHBOUR: 'it returns false'. Refute it at one input. -/
def fnExactDecodeTableWrong : ChangeSpec := { name := "fnExactDecodeTable", fn := fun _ => fun
  | [d] => { results := [.lit (.bool false)], args := [d] }
  | _ => none }
def FnExactDecodeTableWrongFalsely : Prop := fnExactDecodeTableRow.holds Try.pinned (OpenSpec.ofChange fnExactDecodeTableWrong)

/-- 'laws.FnTable': WHATEVER THE INPUT: true; the input reads as it did. -/
def fnTableSpec : ChangeSpec := { name := "fnTable", fn := fun _ => fun
  | [d] => { results := [.lit (.bool true)], args := [d] }
  | _ => none }
def fnTableRow : OpenClaim := { program := "ytkghgjehjchajaa", sum := "875692916322b171fe73dbaa4da021ba22b110a1805aaf6cddd3c08f98d632ff", func := "loop.example/s02533/laws.FnTable", spec := "fnTable", unfollowed := true, recurses := true, apart := false }
def FnTableSaid : Prop := fnTableRow.holds Try.pinned (OpenSpec.ofChange fnTableSpec)

/-- ITS FALSE NEIGHBOUR: 'it returns false'. Refute it at one input. -/
def fnTableWrong : ChangeSpec := { name := "fnTable", fn := fun _ => fun
  | [d] => { results := [.lit (.bool false)], args := [d] }
  | _ => none }
def FnTableWrongFalsely : Prop := fnTableRow.holds Try.pinned (OpenSpec.ofChange fnTableWrong)

/-- 'laws.FnExactLowestInode': WHATEVER THE INPUT: true; the input reads as it did. -/
def fnExactLowestInodeSpec : ChangeSpec := { name := "fnExactLowestInode", fn := fun _ => fun
  | [d] => { results := [.lit (.bool true)], args := [d] }
  | _ => none }
def fnExactLowestInodeRow : OpenClaim := { program := "ytkghgjehjchajaa", sum := "875692916322b171fe73dbaa4da021ba22b110a1805aaf6cddd3c08f98d632ff", func := "loop.example/s02533/laws.FnExactLowestInode", spec := "fnExactLowestInode", apart := false }
def FnExactLowestInodeSaid : Prop := fnExactLowestInodeRow.holds Try.pinned (OpenSpec.ofChange fnExactLowestInodeSpec)

/-- ITS FALSE NEIGHBOUR: 'it returns false'. Refute it at one input. -/
def fnExactLowestInodeWrong : ChangeSpec := { name := "fnExactLowestInode", fn := fun _ => fun
  | [d] => { results := [.lit (.bool false)], args := [d] }
  | _ => none }
def FnExactLowestInodeWrongFalsely : Prop := fnExactLowestInodeRow.holds Try.pinned (OpenSpec.ofChange fnExactLowestInodeWrong)

/- THE SECOND FORM. 'bulk': how many values and letters a reading holds, each counted each time it is reached (what is shared counts as often as it is met; a slice's spare places count too). A statement '..UptoSaid' is the law's where the arguments, and the package variables that the reading takes, are together of bulk at most 1048576: NARROWER than '..Said'. Prove '..Said' where nothing that the law and all that it calls make is longer than what came in: it says more and counts as full. Else prove '..UptoSaid'. A law counts once. -/
mutual
def uptoBulk {H : Type} : DataW H → Nat
  | .lit (.string bytes) => bytes.length + 1
  | .lit _ => 1
  | .nil => 1
  | .ptr d => uptoBulk d + 1
  | .slice elems spare => uptoBulkAll elems + uptoBulkAll spare + 1
  | .agg parts => uptoBulkAll parts + 1
  | .iface _ d => uptoBulk d + 1
  | .map entries => uptoBulkEntries entries + 1
  | .held _ => 1
def uptoBulkAll {H : Type} : List (DataW H) → Nat
  | [] => 0
  | d :: r => uptoBulk d + uptoBulkAll r
def uptoBulkEntries {H : Type} : List (Lit × DataW H) → Nat
  | [] => 0
  | x :: r => uptoBulkEntry x + uptoBulkEntries r
def uptoBulkEntry {H : Type} : Lit × DataW H → Nat
  | (.string bytes, d) => bytes.length + uptoBulk d + 1
  | (_, d) => uptoBulk d + 1
 end
def uptoSmall : (H : Type) → List (DataW H) → Bool := fun _ ds => decide (uptoBulkAll ds ≤ 1048576)
def OpenSpec.upto (s : _root_.Go.ChangeSpec) : _root_.Go.OpenSpec := { _root_.Go.OpenSpec.ofChange s with cond := some uptoSmall }

/-- 'laws.FnExactEncodeRoot', WHERE WHAT IT READS IS OF BULK AT MOST 1048576: true; the input reads as it did. -/
def fnExactEncodeRootUptoRow : OpenClaim := { program := "ytkghgjehjchajaa", sum := "875692916322b171fe73dbaa4da021ba22b110a1805aaf6cddd3c08f98d632ff", func := "loop.example/s02533/laws.FnExactEncodeRoot", spec := "fnExactEncodeRoot", apart := false, narrowed := true }
def FnExactEncodeRootUptoSaid : Prop := fnExactEncodeRootUptoRow.holds Try.pinned (OpenSpec.upto fnExactEncodeRootSpec)

/-- 'laws.FnExactDecodeRoot', WHERE WHAT IT READS IS OF BULK AT MOST 1048576: true; the input reads as it did. -/
def fnExactDecodeRootUptoRow : OpenClaim := { program := "ytkghgjehjchajaa", sum := "875692916322b171fe73dbaa4da021ba22b110a1805aaf6cddd3c08f98d632ff", func := "loop.example/s02533/laws.FnExactDecodeRoot", spec := "fnExactDecodeRoot", unfollowed := true, recurses := true, apart := false, narrowed := true }
def FnExactDecodeRootUptoSaid : Prop := fnExactDecodeRootUptoRow.holds Try.pinned (OpenSpec.upto fnExactDecodeRootSpec)

/-- 'laws.FnExactEncodeInode', WHERE WHAT IT READS IS OF BULK AT MOST 1048576: true; the input reads as it did. -/
def fnExactEncodeInodeUptoRow : OpenClaim := { program := "ytkghgjehjchajaa", sum := "875692916322b171fe73dbaa4da021ba22b110a1805aaf6cddd3c08f98d632ff", func := "loop.example/s02533/laws.FnExactEncodeInode", spec := "fnExactEncodeInode", apart := false, narrowed := true }
def FnExactEncodeInodeUptoSaid : Prop := fnExactEncodeInodeUptoRow.holds Try.pinned (OpenSpec.upto fnExactEncodeInodeSpec)

/-- 'laws.FnExactDecodeInode', WHERE WHAT IT READS IS OF BULK AT MOST 1048576: true; the input reads as it did. -/
def fnExactDecodeInodeUptoRow : OpenClaim := { program := "ytkghgjehjchajaa", sum := "875692916322b171fe73dbaa4da021ba22b110a1805aaf6cddd3c08f98d632ff", func := "loop.example/s02533/laws.FnExactDecodeInode", spec := "fnExactDecodeInode", unfollowed := true, recurses := true, apart := false, narrowed := true }
def FnExactDecodeInodeUptoSaid : Prop := fnExactDecodeInodeUptoRow.holds Try.pinned (OpenSpec.upto fnExactDecodeInodeSpec)

/-- 'laws.FnExactEncodeTable', WHERE WHAT IT READS IS OF BULK AT MOST 1048576: true; the input reads as it did. -/
def fnExactEncodeTableUptoRow : OpenClaim := { program := "ytkghgjehjchajaa", sum := "875692916322b171fe73dbaa4da021ba22b110a1805aaf6cddd3c08f98d632ff", func := "loop.example/s02533/laws.FnExactEncodeTable", spec := "fnExactEncodeTable", apart := false, narrowed := true }
def FnExactEncodeTableUptoSaid : Prop := fnExactEncodeTableUptoRow.holds Try.pinned (OpenSpec.upto fnExactEncodeTableSpec)

/-- 'laws.FnExactDecodeTable', WHERE WHAT IT READS IS OF BULK AT MOST 1048576: true; the input reads as it did. -/
def fnExactDecodeTableUptoRow : OpenClaim := { program := "ytkghgjehjchajaa", sum := "875692916322b171fe73dbaa4da021ba22b110a1805aaf6cddd3c08f98d632ff", func := "loop.example/s02533/laws.FnExactDecodeTable", spec := "fnExactDecodeTable", unfollowed := true, recurses := true, apart := false, narrowed := true }
def FnExactDecodeTableUptoSaid : Prop := fnExactDecodeTableUptoRow.holds Try.pinned (OpenSpec.upto fnExactDecodeTableSpec)

/-- 'laws.FnTable', WHERE WHAT IT READS IS OF BULK AT MOST 1048576: true; the input reads as it did. -/
def fnTableUptoRow : OpenClaim := { program := "ytkghgjehjchajaa", sum := "875692916322b171fe73dbaa4da021ba22b110a1805aaf6cddd3c08f98d632ff", func := "loop.example/s02533/laws.FnTable", spec := "fnTable", unfollowed := true, recurses := true, apart := false, narrowed := true }
def FnTableUptoSaid : Prop := fnTableUptoRow.holds Try.pinned (OpenSpec.upto fnTableSpec)

/-- 'laws.FnExactLowestInode', WHERE WHAT IT READS IS OF BULK AT MOST 1048576: true; the input reads as it did. -/
def fnExactLowestInodeUptoRow : OpenClaim := { program := "ytkghgjehjchajaa", sum := "875692916322b171fe73dbaa4da021ba22b110a1805aaf6cddd3c08f98d632ff", func := "loop.example/s02533/laws.FnExactLowestInode", spec := "fnExactLowestInode", apart := false, narrowed := true }
def FnExactLowestInodeUptoSaid : Prop := fnExactLowestInodeUptoRow.holds Try.pinned (OpenSpec.upto fnExactLowestInodeSpec)

end Rows
end Go.Proofs.Ytkghgjehjchajaa
