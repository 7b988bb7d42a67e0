/-
  No cell of these rows narrows 'for every input' (looked for: loops, veiled, ifaces, maps, wideKeys, modest, calm, conditions, laid).
  DERIVED. THE GIVEN ROWS OF THIS SEAT. 12 by the template 'for every input the law returns true; each argument reads behind the call as it read before'; 0 by the template 'total and deterministic' (their statements: YtjhaofdnlnbajaaTotals.lean).
  GIVEN WITH THE SEED: the statements are not yours to turn. If you find one false, say at which input.
  Laid BY PROGRAM, IN A SANDBOX (cutbox-rows.mjs): the forced cells as the released guide's own fill.sh prints them over the translation 8655811c165fd0b1… (all of the seat's roots in one cut). By AI agents, Wed Nov 11 2026. No macro, syntax, notation, axiom, sorry.
-/
import Derived.Test.YtjhaofdnlnbajaaChecked
import GoSem.Claim
import GoSem.ClaimJoined
import GoSem.ClaimMapViews
import Derived.JoinedTies
import Derived.KernelRfl
namespace Go.Proofs.Ytjhaofdnlnbajaa
/- THE CELL 'sum', in the pinned program and in every row, IS THE sha256 OF THE DUMP (.gsa) THAT YtjhaofdnlnbajaaProg.lean LOADS. Nothing in Lean hashes anything: it is a label: what it is worth is what the hold of that sum in a sandbox is worth. -/
noncomputable def Try.pinned : Pinned := { name := "ytjhaofdnlnbajaa", sum := "8655811c165fd0b16ad2638fb61da4da471f2b32b3ad1e9777d08ed46ccb9463", checked := Try.checked }
namespace Rows
def none {H : Type} : Left H := { results := [], args := [] }

/-- 'laws.FnExactConstants': WHATEVER THE INPUT: true; the input reads as it did. -/
def fnExactConstantsSpec : ChangeSpec := { name := "fnExactConstants", fn := fun _ => fun
  | [] => { results := [.lit (.bool true)], args := [] }
  | _ => none }
def fnExactConstantsRow : OpenClaim := { program := "ytjhaofdnlnbajaa", sum := "8655811c165fd0b16ad2638fb61da4da471f2b32b3ad1e9777d08ed46ccb9463", func := "loop.example/s02533/laws.FnExactConstants", spec := "fnExactConstants", apart := false }
def FnExactConstantsSaid : Prop := fnExactConstantsRow.holds Try.pinned (OpenSpec.ofChange fnExactConstantsSpec)

/-- ITS FALSE NEIGHBOUR: 'it returns false'. Refute it at one input. -/
def fnExactConstantsWrong : ChangeSpec := { name := "fnExactConstants", fn := fun _ => fun
  | [] => { results := [.lit (.bool false)], args := [] }
  | _ => none }
def FnExactConstantsWrongFalsely : Prop := fnExactConstantsRow.holds Try.pinned (OpenSpec.ofChange fnExactConstantsWrong)

/-- 'laws.FnExactMapReserve': WHATEVER THE INPUT: true; the input reads as it did. -/
def fnExactMapReserveSpec : ChangeSpec := { name := "fnExactMapReserve", fn := fun _ => fun
  | [d] => { results := [.lit (.bool true)], args := [d] }
  | _ => none }
def fnExactMapReserveRow : OpenClaim := { program := "ytjhaofdnlnbajaa", sum := "8655811c165fd0b16ad2638fb61da4da471f2b32b3ad1e9777d08ed46ccb9463", func := "loop.example/s02533/laws.FnExactMapReserve", spec := "fnExactMapReserve", apart := false }
def FnExactMapReserveSaid : Prop := fnExactMapReserveRow.holds Try.pinned (OpenSpec.ofChange fnExactMapReserveSpec)

/-- ITS FALSE NEIGHBOUR: 'it returns false'. Refute it at one input. -/
def fnExactMapReserveWrong : ChangeSpec := { name := "fnExactMapReserve", fn := fun _ => fun
  | [d] => { results := [.lit (.bool false)], args := [d] }
  | _ => none }
def FnExactMapReserveWrongFalsely : Prop := fnExactMapReserveRow.holds Try.pinned (OpenSpec.ofChange fnExactMapReserveWrong)

/-- 'laws.FnExactCheckName': WHATEVER THE INPUT: true; the input reads as it did. -/
def fnExactCheckNameSpec : ChangeSpec := { name := "fnExactCheckName", fn := fun _ => fun
  | [d] => { results := [.lit (.bool true)], args := [d] }
  | _ => none }
def fnExactCheckNameRow : OpenClaim := { program := "ytjhaofdnlnbajaa", sum := "8655811c165fd0b16ad2638fb61da4da471f2b32b3ad1e9777d08ed46ccb9463", func := "loop.example/s02533/laws.FnExactCheckName", spec := "fnExactCheckName", apart := false }
def FnExactCheckNameSaid : Prop := fnExactCheckNameRow.holds Try.pinned (OpenSpec.ofChange fnExactCheckNameSpec)

/-- ITS FALSE NEIGHBOUR: 'it returns false'. Refute it at one input. -/
def fnExactCheckNameWrong : ChangeSpec := { name := "fnExactCheckName", fn := fun _ => fun
  | [d] => { results := [.lit (.bool false)], args := [d] }
  | _ => none }
def FnExactCheckNameWrongFalsely : Prop := fnExactCheckNameRow.holds Try.pinned (OpenSpec.ofChange fnExactCheckNameWrong)

/-- 'laws.FnAccess': WHATEVER THE INPUT: true; the input reads as it did. -/
def fnAccessSpec : ChangeSpec := { name := "fnAccess", fn := fun _ => fun
  | [d] => { results := [.lit (.bool true)], args := [d] }
  | _ => none }
def fnAccessRow : OpenClaim := { program := "ytjhaofdnlnbajaa", sum := "8655811c165fd0b16ad2638fb61da4da471f2b32b3ad1e9777d08ed46ccb9463", func := "loop.example/s02533/laws.FnAccess", spec := "fnAccess", apart := false }
def FnAccessSaid : Prop := fnAccessRow.holds Try.pinned (OpenSpec.ofChange fnAccessSpec)

/-- ITS FALSE NEIGHBOUR: 'it returns false'. Refute it at one input. -/
def fnAccessWrong : ChangeSpec := { name := "fnAccess", fn := fun _ => fun
  | [d] => { results := [.lit (.bool false)], args := [d] }
  | _ => none }
def FnAccessWrongFalsely : Prop := fnAccessRow.holds Try.pinned (OpenSpec.ofChange fnAccessWrong)

/-- 'laws.FnExactPlaceOf': WHATEVER THE INPUT: true; the input reads as it did. -/
def fnExactPlaceOfSpec : ChangeSpec := { name := "fnExactPlaceOf", fn := fun _ => fun
  | [d] => { results := [.lit (.bool true)], args := [d] }
  | _ => none }
def fnExactPlaceOfRow : OpenClaim := { program := "ytjhaofdnlnbajaa", sum := "8655811c165fd0b16ad2638fb61da4da471f2b32b3ad1e9777d08ed46ccb9463", func := "loop.example/s02533/laws.FnExactPlaceOf", spec := "fnExactPlaceOf", apart := false }
def FnExactPlaceOfSaid : Prop := fnExactPlaceOfRow.holds Try.pinned (OpenSpec.ofChange fnExactPlaceOfSpec)

/-- ITS FALSE NEIGHBOUR: 'it returns false'. Refute it at one input. -/
def fnExactPlaceOfWrong : ChangeSpec := { name := "fnExactPlaceOf", fn := fun _ => fun
  | [d] => { results := [.lit (.bool false)], args := [d] }
  | _ => none }
def FnExactPlaceOfWrongFalsely : Prop := fnExactPlaceOfRow.holds Try.pinned (OpenSpec.ofChange fnExactPlaceOfWrong)

/-- 'laws.FnExactCrc32': WHATEVER THE INPUT: true; the input reads as it did. -/
def fnExactCrc32Spec : ChangeSpec := { name := "fnExactCrc32", fn := fun _ => fun
  | [d] => { results := [.lit (.bool true)], args := [d] }
  | _ => none }
def fnExactCrc32Row : OpenClaim := { program := "ytjhaofdnlnbajaa", sum := "8655811c165fd0b16ad2638fb61da4da471f2b32b3ad1e9777d08ed46ccb9463", func := "loop.example/s02533/laws.FnExactCrc32", spec := "fnExactCrc32", apart := false }
def FnExactCrc32Said : Prop := fnExactCrc32Row.holds Try.pinned (OpenSpec.ofChange fnExactCrc32Spec)

/-- ITS FALSE NEIGHBOUR: 'it returns false'. Refute it at one input. -/
def fnExactCrc32Wrong : ChangeSpec := { name := "fnExactCrc32", fn := fun _ => fun
  | [d] => { results := [.lit (.bool false)], args := [d] }
  | _ => none }
def FnExactCrc32WrongFalsely : Prop := fnExactCrc32Row.holds Try.pinned (OpenSpec.ofChange fnExactCrc32Wrong)

/-- 'laws.FnExactDecodeWords': WHATEVER THE INPUT: true; the input reads as it did. -/
def fnExactDecodeWordsSpec : ChangeSpec := { name := "fnExactDecodeWords", fn := fun _ => fun
  | [d] => { results := [.lit (.bool true)], args := [d] }
  | _ => none }
def fnExactDecodeWordsRow : OpenClaim := { program := "ytjhaofdnlnbajaa", sum := "8655811c165fd0b16ad2638fb61da4da471f2b32b3ad1e9777d08ed46ccb9463", func := "loop.example/s02533/laws.FnExactDecodeWords", spec := "fnExactDecodeWords", apart := false }
def FnExactDecodeWordsSaid : Prop := fnExactDecodeWordsRow.holds Try.pinned (OpenSpec.ofChange fnExactDecodeWordsSpec)

/-- ITS FALSE NEIGHBOUR: 'it returns false'. Refute it at one input. -/
def fnExactDecodeWordsWrong : ChangeSpec := { name := "fnExactDecodeWords", fn := fun _ => fun
  | [d] => { results := [.lit (.bool false)], args := [d] }
  | _ => none }
def FnExactDecodeWordsWrongFalsely : Prop := fnExactDecodeWordsRow.holds Try.pinned (OpenSpec.ofChange fnExactDecodeWordsWrong)

/-- 'laws.FnExactEncodeWords': WHATEVER THE INPUT: true; the input reads as it did. -/
def fnExactEncodeWordsSpec : ChangeSpec := { name := "fnExactEncodeWords", fn := fun _ => fun
  | [d] => { results := [.lit (.bool true)], args := [d] }
  | _ => none }
def fnExactEncodeWordsRow : OpenClaim := { program := "ytjhaofdnlnbajaa", sum := "8655811c165fd0b16ad2638fb61da4da471f2b32b3ad1e9777d08ed46ccb9463", func := "loop.example/s02533/laws.FnExactEncodeWords", spec := "fnExactEncodeWords", apart := false }
def FnExactEncodeWordsSaid : Prop := fnExactEncodeWordsRow.holds Try.pinned (OpenSpec.ofChange fnExactEncodeWordsSpec)

/-- ITS FALSE NEIGHBOUR: 'it returns false'. Refute it at one input. -/
def fnExactEncodeWordsWrong : ChangeSpec := { name := "fnExactEncodeWords", fn := fun _ => fun
  | [d] => { results := [.lit (.bool false)], args := [d] }
  | _ => none }
def FnExactEncodeWordsWrongFalsely : Prop := fnExactEncodeWordsRow.holds Try.pinned (OpenSpec.ofChange fnExactEncodeWordsWrong)

/-- 'laws.FnExactMapCount': WHATEVER THE INPUT: true; the input reads as it did. -/
def fnExactMapCountSpec : ChangeSpec := { name := "fnExactMapCount", fn := fun _ => fun
  | [d] => { results := [.lit (.bool true)], args := [d] }
  | _ => none }
def fnExactMapCountRow : OpenClaim := { program := "ytjhaofdnlnbajaa", sum := "8655811c165fd0b16ad2638fb61da4da471f2b32b3ad1e9777d08ed46ccb9463", func := "loop.example/s02533/laws.FnExactMapCount", spec := "fnExactMapCount", unfollowed := true, recurses := true, apart := false }
def FnExactMapCountSaid : Prop := fnExactMapCountRow.holds Try.pinned (OpenSpec.ofChange fnExactMapCountSpec)

/-- ITS FALSE NEIGHBOUR: 'it returns false'. Refute it at one input. -/
def fnExactMapCountWrong : ChangeSpec := { name := "fnExactMapCount", fn := fun _ => fun
  | [d] => { results := [.lit (.bool false)], args := [d] }
  | _ => none }
def FnExactMapCountWrongFalsely : Prop := fnExactMapCountRow.holds Try.pinned (OpenSpec.ofChange fnExactMapCountWrong)

/-- 'laws.FnExactMapPlane': WHATEVER THE INPUT: true; the input reads as it did. -/
def fnExactMapPlaneSpec : ChangeSpec := { name := "fnExactMapPlane", fn := fun _ => fun
  | [d1, d2, d3] => { results := [.lit (.bool true)], args := [d1, d2, d3] }
  | _ => none }
def fnExactMapPlaneRow : OpenClaim := { program := "ytjhaofdnlnbajaa", sum := "8655811c165fd0b16ad2638fb61da4da471f2b32b3ad1e9777d08ed46ccb9463", func := "loop.example/s02533/laws.FnExactMapPlane", spec := "fnExactMapPlane", unfollowed := true, recurses := true, apart := false }
def FnExactMapPlaneSaid : Prop := fnExactMapPlaneRow.holds Try.pinned (OpenSpec.ofChange fnExactMapPlaneSpec)

/-- ITS FALSE NEIGHBOUR: 'it returns false'. Refute it at one input. -/
def fnExactMapPlaneWrong : ChangeSpec := { name := "fnExactMapPlane", fn := fun _ => fun
  | [d1, d2, d3] => { results := [.lit (.bool false)], args := [d1, d2, d3] }
  | _ => none }
def FnExactMapPlaneWrongFalsely : Prop := fnExactMapPlaneRow.holds Try.pinned (OpenSpec.ofChange fnExactMapPlaneWrong)

/-- 'laws.FnExactMapFree': WHATEVER THE INPUT: true; the input reads as it did. -/
def fnExactMapFreeSpec : ChangeSpec := { name := "fnExactMapFree", fn := fun _ => fun
  | [d1, d2, d3] => { results := [.lit (.bool true)], args := [d1, d2, d3] }
  | _ => none }
def fnExactMapFreeRow : OpenClaim := { program := "ytjhaofdnlnbajaa", sum := "8655811c165fd0b16ad2638fb61da4da471f2b32b3ad1e9777d08ed46ccb9463", func := "loop.example/s02533/laws.FnExactMapFree", spec := "fnExactMapFree", unfollowed := true, recurses := true, apart := false }
def FnExactMapFreeSaid : Prop := fnExactMapFreeRow.holds Try.pinned (OpenSpec.ofChange fnExactMapFreeSpec)

/-- ITS FALSE NEIGHBOUR: 'it returns false'. Refute it at one input. -/
def fnExactMapFreeWrong : ChangeSpec := { name := "fnExactMapFree", fn := fun _ => fun
  | [d1, d2, d3] => { results := [.lit (.bool false)], args := [d1, d2, d3] }
  | _ => none }
def FnExactMapFreeWrongFalsely : Prop := fnExactMapFreeRow.holds Try.pinned (OpenSpec.ofChange fnExactMapFreeWrong)

/-- 'laws.FnFree': WHATEVER THE INPUT: true; the input reads as it did. -/
def fnFreeSpec : ChangeSpec := { name := "fnFree", fn := fun _ => fun
  | [d] => { results := [.lit (.bool true)], args := [d] }
  | _ => none }
def fnFreeRow : OpenClaim := { program := "ytjhaofdnlnbajaa", sum := "8655811c165fd0b16ad2638fb61da4da471f2b32b3ad1e9777d08ed46ccb9463", func := "loop.example/s02533/laws.FnFree", spec := "fnFree", unfollowed := true, recurses := true, apart := false }
def FnFreeSaid : Prop := fnFreeRow.holds Try.pinned (OpenSpec.ofChange fnFreeSpec)

/-- ITS FALSE NEIGHBOUR: 'it returns false'. Refute it at one input. -/
def fnFreeWrong : ChangeSpec := { name := "fnFree", fn := fun _ => fun
  | [d] => { results := [.lit (.bool false)], args := [d] }
  | _ => none }
def FnFreeWrongFalsely : Prop := fnFreeRow.holds Try.pinned (OpenSpec.ofChange fnFreeWrong)

/- THE SECOND FORM. 'bulk': how many values and letters a reading holds, each counted each time it is reached (what is shared counts as often as it is met; a slice's spare places count too). A statement '..UptoSaid' is the law's where the arguments, and the package variables that the reading takes, are together of bulk at most 1048576: NARROWER than '..Said'. Prove '..Said' where nothing that the law and all that it calls make is longer than what came in: it says more and counts as full. Else prove '..UptoSaid'. A law counts once. -/
mutual
def uptoBulk {H : Type} : DataW H → Nat
  | .lit (.string bytes) => bytes.length + 1
  | .lit _ => 1
  | .nil => 1
  | .ptr d => uptoBulk d + 1
  | .slice elems spare => uptoBulkAll elems + uptoBulkAll spare + 1
  | .agg parts => uptoBulkAll parts + 1
  | .iface _ d => uptoBulk d + 1
  | .map entries => uptoBulkEntries entries + 1
  | .held _ => 1
def uptoBulkAll {H : Type} : List (DataW H) → Nat
  | [] => 0
  | d :: r => uptoBulk d + uptoBulkAll r
def uptoBulkEntries {H : Type} : List (Lit × DataW H) → Nat
  | [] => 0
  | x :: r => uptoBulkEntry x + uptoBulkEntries r
def uptoBulkEntry {H : Type} : Lit × DataW H → Nat
  | (.string bytes, d) => bytes.length + uptoBulk d + 1
  | (_, d) => uptoBulk d + 1
 end
def uptoSmall : (H : Type) → List (DataW H) → Bool := fun _ ds => decide (uptoBulkAll ds ≤ 1048576)
def OpenSpec.upto (s : _root_.Go.ChangeSpec) : _root_.Go.OpenSpec := { _root_.Go.OpenSpec.ofChange s with cond := some uptoSmall }

/-- 'laws.FnExactConstants', WHERE WHAT IT READS IS OF BULK AT MOST 1048576: true; the input reads as it did. -/
def fnExactConstantsUptoRow : OpenClaim := { program := "ytjhaofdnlnbajaa", sum := "8655811c165fd0b16ad2638fb61da4da471f2b32b3ad1e9777d08ed46ccb9463", func := "loop.example/s02533/laws.FnExactConstants", spec := "fnExactConstants", apart := false, narrowed := true }
def FnExactConstantsUptoSaid : Prop := fnExactConstantsUptoRow.holds Try.pinned (OpenSpec.upto fnExactConstantsSpec)

/-- 'laws.FnExactMapReserve', WHERE WHAT IT READS IS OF BULK AT MOST 1048576: true; the input reads as it did. -/
def fnExactMapReserveUptoRow : OpenClaim := { program := "ytjhaofdnlnbajaa", sum := "8655811c165fd0b16ad2638fb61da4da471f2b32b3ad1e9777d08ed46ccb9463", func := "loop.example/s02533/laws.FnExactMapReserve", spec := "fnExactMapReserve", apart := false, narrowed := true }
def FnExactMapReserveUptoSaid : Prop := fnExactMapReserveUptoRow.holds Try.pinned (OpenSpec.upto fnExactMapReserveSpec)

/-- 'laws.FnExactCheckName', WHERE WHAT IT READS IS OF BULK AT MOST 1048576: true; the input reads as it did. -/
def fnExactCheckNameUptoRow : OpenClaim := { program := "ytjhaofdnlnbajaa", sum := "8655811c165fd0b16ad2638fb61da4da471f2b32b3ad1e9777d08ed46ccb9463", func := "loop.example/s02533/laws.FnExactCheckName", spec := "fnExactCheckName", apart := false, narrowed := true }
def FnExactCheckNameUptoSaid : Prop := fnExactCheckNameUptoRow.holds Try.pinned (OpenSpec.upto fnExactCheckNameSpec)

/-- 'laws.FnAccess', WHERE WHAT IT READS IS OF BULK AT MOST 1048576: true; the input reads as it did. -/
def fnAccessUptoRow : OpenClaim := { program := "ytjhaofdnlnbajaa", sum := "8655811c165fd0b16ad2638fb61da4da471f2b32b3ad1e9777d08ed46ccb9463", func := "loop.example/s02533/laws.FnAccess", spec := "fnAccess", apart := false, narrowed := true }
def FnAccessUptoSaid : Prop := fnAccessUptoRow.holds Try.pinned (OpenSpec.upto fnAccessSpec)

/-- 'laws.FnExactPlaceOf', WHERE WHAT IT READS IS OF BULK AT MOST 1048576: true; the input reads as it did. -/
def fnExactPlaceOfUptoRow : OpenClaim := { program := "ytjhaofdnlnbajaa", sum := "8655811c165fd0b16ad2638fb61da4da471f2b32b3ad1e9777d08ed46ccb9463", func := "loop.example/s02533/laws.FnExactPlaceOf", spec := "fnExactPlaceOf", apart := false, narrowed := true }
def FnExactPlaceOfUptoSaid : Prop := fnExactPlaceOfUptoRow.holds Try.pinned (OpenSpec.upto fnExactPlaceOfSpec)

/-- 'laws.FnExactCrc32', WHERE WHAT IT READS IS OF BULK AT MOST 1048576: true; the input reads as it did. -/
def fnExactCrc32UptoRow : OpenClaim := { program := "ytjhaofdnlnbajaa", sum := "8655811c165fd0b16ad2638fb61da4da471f2b32b3ad1e9777d08ed46ccb9463", func := "loop.example/s02533/laws.FnExactCrc32", spec := "fnExactCrc32", apart := false, narrowed := true }
def FnExactCrc32UptoSaid : Prop := fnExactCrc32UptoRow.holds Try.pinned (OpenSpec.upto fnExactCrc32Spec)

/-- 'laws.FnExactDecodeWords', WHERE WHAT IT READS IS OF BULK AT MOST 1048576: true; the input reads as it did. -/
def fnExactDecodeWordsUptoRow : OpenClaim := { program := "ytjhaofdnlnbajaa", sum := "8655811c165fd0b16ad2638fb61da4da471f2b32b3ad1e9777d08ed46ccb9463", func := "loop.example/s02533/laws.FnExactDecodeWords", spec := "fnExactDecodeWords", apart := false, narrowed := true }
def FnExactDecodeWordsUptoSaid : Prop := fnExactDecodeWordsUptoRow.holds Try.pinned (OpenSpec.upto fnExactDecodeWordsSpec)

/-- 'laws.FnExactEncodeWords', WHERE WHAT IT READS IS OF BULK AT MOST 1048576: true; the input reads as it did. -/
def fnExactEncodeWordsUptoRow : OpenClaim := { program := "ytjhaofdnlnbajaa", sum := "8655811c165fd0b16ad2638fb61da4da471f2b32b3ad1e9777d08ed46ccb9463", func := "loop.example/s02533/laws.FnExactEncodeWords", spec := "fnExactEncodeWords", apart := false, narrowed := true }
def FnExactEncodeWordsUptoSaid : Prop := fnExactEncodeWordsUptoRow.holds Try.pinned (OpenSpec.upto fnExactEncodeWordsSpec)

/-- 'laws.FnExactMapCount', WHERE WHAT IT READS IS OF BULK AT MOST 1048576: true; the input reads as it did. -/
def fnExactMapCountUptoRow : OpenClaim := { program := "ytjhaofdnlnbajaa", sum := "8655811c165fd0b16ad2638fb61da4da471f2b32b3ad1e9777d08ed46ccb9463", func := "loop.example/s02533/laws.FnExactMapCount", spec := "fnExactMapCount", unfollowed := true, recurses := true, apart := false, narrowed := true }
def FnExactMapCountUptoSaid : Prop := fnExactMapCountUptoRow.holds Try.pinned (OpenSpec.upto fnExactMapCountSpec)

/-- 'laws.FnExactMapPlane', WHERE WHAT IT READS IS OF BULK AT MOST 1048576: true; the input reads as it did. -/
def fnExactMapPlaneUptoRow : OpenClaim := { program := "ytjhaofdnlnbajaa", sum := "8655811c165fd0b16ad2638fb61da4da471f2b32b3ad1e9777d08ed46ccb9463", func := "loop.example/s02533/laws.FnExactMapPlane", spec := "fnExactMapPlane", unfollowed := true, recurses := true, apart := false, narrowed := true }
def FnExactMapPlaneUptoSaid : Prop := fnExactMapPlaneUptoRow.holds Try.pinned (OpenSpec.upto fnExactMapPlaneSpec)

/-- 'laws.FnExactMapFree', WHERE WHAT IT READS IS OF BULK AT MOST 1048576: true; the input reads as it did. -/
def fnExactMapFreeUptoRow : OpenClaim := { program := "ytjhaofdnlnbajaa", sum := "8655811c165fd0b16ad2638fb61da4da471f2b32b3ad1e9777d08ed46ccb9463", func := "loop.example/s02533/laws.FnExactMapFree", spec := "fnExactMapFree", unfollowed := true, recurses := true, apart := false, narrowed := true }
def FnExactMapFreeUptoSaid : Prop := fnExactMapFreeUptoRow.holds Try.pinned (OpenSpec.upto fnExactMapFreeSpec)

/-- 'laws.FnFree', WHERE WHAT IT READS IS OF BULK AT MOST 1048576: true; the input reads as it did. -/
def fnFreeUptoRow : OpenClaim := { program := "ytjhaofdnlnbajaa", sum := "8655811c165fd0b16ad2638fb61da4da471f2b32b3ad1e9777d08ed46ccb9463", func := "loop.example/s02533/laws.FnFree", spec := "fnFree", unfollowed := true, recurses := true, apart := false, narrowed := true }
def FnFreeUptoSaid : Prop := fnFreeUptoRow.holds Try.pinned (OpenSpec.upto fnFreeSpec)

end Rows
end Go.Proofs.Ytjhaofdnlnbajaa
