/-
  NARROWER THAN 'FOR EVERY INPUT', by the rows' own cells (each row's printed sentence says how): FnExactEncodeSnap: laid · FnExactDecodeSnap: laid · FnExactEncodeFsinfo: laid · FnExactDecodeFsinfo: laid · FnExactCpSteps: laid · FnExactChooseFsinfo: laid.
  DERIVED. THE GIVEN ROWS OF THIS SEAT. 6 by the template 'for every input the law returns true; each argument reads behind the call as it read before'; 0 by the template 'total and deterministic' (their statements: YtkghgjehjchajaaDoorTotals.lean).
  GIVEN WITH THE SEED: the statements are not yours to turn. If you find one false, say at which input.
  Laid BY PROGRAM, IN A SANDBOX (cutbox-rows.mjs): the forced cells as the released guide's own fill.sh prints them over the translation a2be4f5438a652a1… (all of the seat's roots in one cut). By AI agents, Wed Nov 11 2026. No macro, syntax, notation, axiom, sorry.
-/
import Derived.Test.YtkghgjehjchajaaDoorChecked
import GoSem.Claim
import GoSem.ClaimJoined
import GoSem.ClaimMapViews
import Derived.JoinedTies
import Derived.KernelRfl
namespace Go.Proofs.YtkghgjehjchajaaDoor
/- THE CELL 'sum', in the pinned program and in every row, IS THE sha256 OF THE DUMP (.gsa) THAT YtkghgjehjchajaaDoorProg.lean LOADS. Nothing in Lean hashes anything: it is a label: what it is worth is what the hold of that sum in a sandbox is worth. -/
noncomputable def Tryd.pinned : Pinned := { name := "ytkghgjehjchajaadoor", sum := "a2be4f5438a652a1e2abe2eceb81aae8a2d5acaff0fb5218735e6d89f4aa2724", checked := Tryd.checked }
namespace Rows
def none {H : Type} : Left H := { results := [], args := [] }

/- WHAT THE LISTED PACKAGE-LEVEL VARIABLES READ AS WHEN THE CALL BEGINS. Each datum BY PROGRAM (the guide's laid-datum.mjs) off the statement by which the dump's own 'gosem.cut.vars' lays the variable. In a bare row this is a premise. The card (YtkghgjehjchajaaDoorCards.lean) ties it to the program's text. -/
def laid_loop_example_s02533_impl_snapMagic {H : Type} : DataW H := .agg [.lit (.int .u8 115), .lit (.int .u8 110), .lit (.int .u8 97), .lit (.int .u8 112), .lit (.int .u8 115), .lit (.int .u8 104), .lit (.int .u8 111), .lit (.int .u8 116)]
def laid_loop_example_s02533_impl_recordMagic {H : Type} : DataW H := .agg [.lit (.int .u8 114), .lit (.int .u8 111), .lit (.int .u8 111), .lit (.int .u8 116), .lit (.int .u8 114), .lit (.int .u8 101), .lit (.int .u8 99), .lit (.int .u8 49)]
def laid_errors_errorType {H : Type} : DataW H := .iface "internal/reflectlite.rtype" (.agg [.ptr (.lit (.string [101, 114, 114, 111, 114]))])

/-- 'laws.FnExactEncodeSnap': WHATEVER THE INPUT: true; the input reads as it did. -/
def fnExactEncodeSnapSpec : ChangeSpec := { name := "fnExactEncodeSnap", vars := ["loop.example/s02533/impl.snapMagic"], fn := fun _ => fun
  | [d, g1] => { results := [.lit (.bool true)], args := [d], vars := [g1] }
  | _ => none }
def fnExactEncodeSnapRow : OpenClaim := { program := "ytkghgjehjchajaadoor", sum := "a2be4f5438a652a1e2abe2eceb81aae8a2d5acaff0fb5218735e6d89f4aa2724", func := "loop.example/s02533/laws.FnExactEncodeSnap", spec := "fnExactEncodeSnap", named := ["loop.example/s02533/impl.snapMagic"], apart := false, laid := [("loop.example/s02533/impl.snapMagic", laid_loop_example_s02533_impl_snapMagic)] }
def FnExactEncodeSnapSaid : Prop := fnExactEncodeSnapRow.holds Tryd.pinned (OpenSpec.ofChange fnExactEncodeSnapSpec)

/-- ITS FALSE NEIGHBOUR: 'it returns false'. Refute it at one input. -/
def fnExactEncodeSnapWrong : ChangeSpec := { name := "fnExactEncodeSnap", vars := ["loop.example/s02533/impl.snapMagic"], fn := fun _ => fun
  | [d, g1] => { results := [.lit (.bool false)], args := [d], vars := [g1] }
  | _ => none }
def FnExactEncodeSnapWrongFalsely : Prop := fnExactEncodeSnapRow.holds Tryd.pinned (OpenSpec.ofChange fnExactEncodeSnapWrong)

/-- 'laws.FnExactDecodeSnap': WHATEVER THE INPUT: true; the input reads as it did. -/
def fnExactDecodeSnapSpec : ChangeSpec := { name := "fnExactDecodeSnap", vars := ["loop.example/s02533/impl.snapMagic"], fn := fun _ => fun
  | [d, g1] => { results := [.lit (.bool true)], args := [d], vars := [g1] }
  | _ => none }
def fnExactDecodeSnapRow : OpenClaim := { program := "ytkghgjehjchajaadoor", sum := "a2be4f5438a652a1e2abe2eceb81aae8a2d5acaff0fb5218735e6d89f4aa2724", func := "loop.example/s02533/laws.FnExactDecodeSnap", spec := "fnExactDecodeSnap", unfollowed := true, recurses := true, named := ["loop.example/s02533/impl.snapMagic"], apart := false, laid := [("loop.example/s02533/impl.snapMagic", laid_loop_example_s02533_impl_snapMagic)] }
def FnExactDecodeSnapSaid : Prop := fnExactDecodeSnapRow.holds Tryd.pinned (OpenSpec.ofChange fnExactDecodeSnapSpec)

/-- ITS FALSE NEIGHBOUR: 'it returns false'. Refute it at one input. -/
def fnExactDecodeSnapWrong : ChangeSpec := { name := "fnExactDecodeSnap", vars := ["loop.example/s02533/impl.snapMagic"], fn := fun _ => fun
  | [d, g1] => { results := [.lit (.bool false)], args := [d], vars := [g1] }
  | _ => none }
def FnExactDecodeSnapWrongFalsely : Prop := fnExactDecodeSnapRow.holds Tryd.pinned (OpenSpec.ofChange fnExactDecodeSnapWrong)

/-- 'laws.FnExactEncodeFsinfo': WHATEVER THE INPUT: true; the input reads as it did. -/
def fnExactEncodeFsinfoSpec : ChangeSpec := { name := "fnExactEncodeFsinfo", vars := ["loop.example/s02533/impl.recordMagic"], fn := fun _ => fun
  | [d, g1] => { results := [.lit (.bool true)], args := [d], vars := [g1] }
  | _ => none }
def fnExactEncodeFsinfoRow : OpenClaim := { program := "ytkghgjehjchajaadoor", sum := "a2be4f5438a652a1e2abe2eceb81aae8a2d5acaff0fb5218735e6d89f4aa2724", func := "loop.example/s02533/laws.FnExactEncodeFsinfo", spec := "fnExactEncodeFsinfo", named := ["loop.example/s02533/impl.recordMagic"], apart := false, laid := [("loop.example/s02533/impl.recordMagic", laid_loop_example_s02533_impl_recordMagic)] }
def FnExactEncodeFsinfoSaid : Prop := fnExactEncodeFsinfoRow.holds Tryd.pinned (OpenSpec.ofChange fnExactEncodeFsinfoSpec)

/-- ITS FALSE NEIGHBOUR: 'it returns false'. Refute it at one input. -/
def fnExactEncodeFsinfoWrong : ChangeSpec := { name := "fnExactEncodeFsinfo", vars := ["loop.example/s02533/impl.recordMagic"], fn := fun _ => fun
  | [d, g1] => { results := [.lit (.bool false)], args := [d], vars := [g1] }
  | _ => none }
def FnExactEncodeFsinfoWrongFalsely : Prop := fnExactEncodeFsinfoRow.holds Tryd.pinned (OpenSpec.ofChange fnExactEncodeFsinfoWrong)

/-- 'laws.FnExactDecodeFsinfo': WHATEVER THE INPUT: true; the input reads as it did. -/
def fnExactDecodeFsinfoSpec : ChangeSpec := { name := "fnExactDecodeFsinfo", vars := ["loop.example/s02533/impl.recordMagic"], fn := fun _ => fun
  | [d, g1] => { results := [.lit (.bool true)], args := [d], vars := [g1] }
  | _ => none }
def fnExactDecodeFsinfoRow : OpenClaim := { program := "ytkghgjehjchajaadoor", sum := "a2be4f5438a652a1e2abe2eceb81aae8a2d5acaff0fb5218735e6d89f4aa2724", func := "loop.example/s02533/laws.FnExactDecodeFsinfo", spec := "fnExactDecodeFsinfo", unfollowed := true, recurses := true, named := ["loop.example/s02533/impl.recordMagic"], apart := false, laid := [("loop.example/s02533/impl.recordMagic", laid_loop_example_s02533_impl_recordMagic)] }
def FnExactDecodeFsinfoSaid : Prop := fnExactDecodeFsinfoRow.holds Tryd.pinned (OpenSpec.ofChange fnExactDecodeFsinfoSpec)

/-- ITS FALSE NEIGHBOUR: 'it returns false'. Refute it at one input. -/
def fnExactDecodeFsinfoWrong : ChangeSpec := { name := "fnExactDecodeFsinfo", vars := ["loop.example/s02533/impl.recordMagic"], fn := fun _ => fun
  | [d, g1] => { results := [.lit (.bool false)], args := [d], vars := [g1] }
  | _ => none }
def FnExactDecodeFsinfoWrongFalsely : Prop := fnExactDecodeFsinfoRow.holds Tryd.pinned (OpenSpec.ofChange fnExactDecodeFsinfoWrong)

/-- 'laws.FnExactCpSteps': WHATEVER THE INPUT: true; the input reads as it did. -/
def fnExactCpStepsSpec : ChangeSpec := { name := "fnExactCpSteps", vars := ["loop.example/s02533/impl.recordMagic"], fn := fun _ => fun
  | [d, g1] => { results := [.lit (.bool true)], args := [d], vars := [g1] }
  | _ => none }
def fnExactCpStepsRow : OpenClaim := { program := "ytkghgjehjchajaadoor", sum := "a2be4f5438a652a1e2abe2eceb81aae8a2d5acaff0fb5218735e6d89f4aa2724", func := "loop.example/s02533/laws.FnExactCpSteps", spec := "fnExactCpSteps", named := ["loop.example/s02533/impl.recordMagic"], apart := false, laid := [("loop.example/s02533/impl.recordMagic", laid_loop_example_s02533_impl_recordMagic)] }
def FnExactCpStepsSaid : Prop := fnExactCpStepsRow.holds Tryd.pinned (OpenSpec.ofChange fnExactCpStepsSpec)

/-- ITS FALSE NEIGHBOUR: 'it returns false'. Refute it at one input. -/
def fnExactCpStepsWrong : ChangeSpec := { name := "fnExactCpSteps", vars := ["loop.example/s02533/impl.recordMagic"], fn := fun _ => fun
  | [d, g1] => { results := [.lit (.bool false)], args := [d], vars := [g1] }
  | _ => none }
def FnExactCpStepsWrongFalsely : Prop := fnExactCpStepsRow.holds Tryd.pinned (OpenSpec.ofChange fnExactCpStepsWrong)

/-- 'laws.FnExactChooseFsinfo': WHATEVER THE INPUT: true; the input reads as it did. -/
def fnExactChooseFsinfoSpec : ChangeSpec := { name := "fnExactChooseFsinfo", vars := ["loop.example/s02533/impl.recordMagic"], fn := fun _ => fun
  | [d, g1] => { results := [.lit (.bool true)], args := [d], vars := [g1] }
  | _ => none }
def fnExactChooseFsinfoRow : OpenClaim := { program := "ytkghgjehjchajaadoor", sum := "a2be4f5438a652a1e2abe2eceb81aae8a2d5acaff0fb5218735e6d89f4aa2724", func := "loop.example/s02533/laws.FnExactChooseFsinfo", spec := "fnExactChooseFsinfo", inPlace := ["internal/reflectlite.ValueOf", "(internal/reflectlite.Value).Type", "(internal/reflectlite.Value).IsNil", "internal/reflectlite.TypeOf", "(internal/reflectlite.Value).Elem", "(internal/reflectlite.Value).Set"], unfollowed := true, recurses := true, named := ["loop.example/s02533/impl.recordMagic", "errors.errorType"], apart := false, laid := [("errors.errorType", laid_errors_errorType), ("loop.example/s02533/impl.recordMagic", laid_loop_example_s02533_impl_recordMagic)] }
def FnExactChooseFsinfoSaid : Prop := fnExactChooseFsinfoRow.holds Tryd.pinned (OpenSpec.ofChange fnExactChooseFsinfoSpec)

/-- ITS FALSE NEIGHBOUR: 'it returns false'. Refute it at one input. -/
def fnExactChooseFsinfoWrong : ChangeSpec := { name := "fnExactChooseFsinfo", vars := ["loop.example/s02533/impl.recordMagic"], fn := fun _ => fun
  | [d, g1] => { results := [.lit (.bool false)], args := [d], vars := [g1] }
  | _ => none }
def FnExactChooseFsinfoWrongFalsely : Prop := fnExactChooseFsinfoRow.holds Tryd.pinned (OpenSpec.ofChange fnExactChooseFsinfoWrong)

/- THE SECOND FORM. 'bulk': how many values and letters a reading holds, each counted each time it is reached (what is shared counts as often as it is met; a slice's spare places count too). A statement '..UptoSaid' is the law's where the arguments, and the package variables that the reading takes, are together of bulk at most 1048576: NARROWER than '..Said'. Prove '..Said' where nothing that the law and all that it calls make is longer than what came in: it says more and counts as full. Else prove '..UptoSaid'. A law counts once. -/
mutual
def uptoBulk {H : Type} : DataW H → Nat
  | .lit (.string bytes) => bytes.length + 1
  | .lit _ => 1
  | .nil => 1
  | .ptr d => uptoBulk d + 1
  | .slice elems spare => uptoBulkAll elems + uptoBulkAll spare + 1
  | .agg parts => uptoBulkAll parts + 1
  | .iface _ d => uptoBulk d + 1
  | .map entries => uptoBulkEntries entries + 1
  | .held _ => 1
def uptoBulkAll {H : Type} : List (DataW H) → Nat
  | [] => 0
  | d :: r => uptoBulk d + uptoBulkAll r
def uptoBulkEntries {H : Type} : List (Lit × DataW H) → Nat
  | [] => 0
  | x :: r => uptoBulkEntry x + uptoBulkEntries r
def uptoBulkEntry {H : Type} : Lit × DataW H → Nat
  | (.string bytes, d) => bytes.length + uptoBulk d + 1
  | (_, d) => uptoBulk d + 1
 end
def uptoSmall : (H : Type) → List (DataW H) → Bool := fun _ ds => decide (uptoBulkAll ds ≤ 1048576)
def OpenSpec.upto (s : _root_.Go.ChangeSpec) : _root_.Go.OpenSpec := { _root_.Go.OpenSpec.ofChange s with cond := some uptoSmall }

/-- 'laws.FnExactEncodeSnap', WHERE WHAT IT READS IS OF BULK AT MOST 1048576: true; the input reads as it did. -/
def fnExactEncodeSnapUptoRow : OpenClaim := { program := "ytkghgjehjchajaadoor", sum := "a2be4f5438a652a1e2abe2eceb81aae8a2d5acaff0fb5218735e6d89f4aa2724", func := "loop.example/s02533/laws.FnExactEncodeSnap", spec := "fnExactEncodeSnap", named := ["loop.example/s02533/impl.snapMagic"], apart := false, laid := [("loop.example/s02533/impl.snapMagic", laid_loop_example_s02533_impl_snapMagic)], narrowed := true }
def FnExactEncodeSnapUptoSaid : Prop := fnExactEncodeSnapUptoRow.holds Tryd.pinned (OpenSpec.upto fnExactEncodeSnapSpec)

/-- 'laws.FnExactDecodeSnap', WHERE WHAT IT READS IS OF BULK AT MOST 1048576: true; the input reads as it did. -/
def fnExactDecodeSnapUptoRow : OpenClaim := { program := "ytkghgjehjchajaadoor", sum := "a2be4f5438a652a1e2abe2eceb81aae8a2d5acaff0fb5218735e6d89f4aa2724", func := "loop.example/s02533/laws.FnExactDecodeSnap", spec := "fnExactDecodeSnap", unfollowed := true, recurses := true, named := ["loop.example/s02533/impl.snapMagic"], apart := false, laid := [("loop.example/s02533/impl.snapMagic", laid_loop_example_s02533_impl_snapMagic)], narrowed := true }
def FnExactDecodeSnapUptoSaid : Prop := fnExactDecodeSnapUptoRow.holds Tryd.pinned (OpenSpec.upto fnExactDecodeSnapSpec)

/-- 'laws.FnExactEncodeFsinfo', WHERE WHAT IT READS IS OF BULK AT MOST 1048576: true; the input reads as it did. -/
def fnExactEncodeFsinfoUptoRow : OpenClaim := { program := "ytkghgjehjchajaadoor", sum := "a2be4f5438a652a1e2abe2eceb81aae8a2d5acaff0fb5218735e6d89f4aa2724", func := "loop.example/s02533/laws.FnExactEncodeFsinfo", spec := "fnExactEncodeFsinfo", named := ["loop.example/s02533/impl.recordMagic"], apart := false, laid := [("loop.example/s02533/impl.recordMagic", laid_loop_example_s02533_impl_recordMagic)], narrowed := true }
def FnExactEncodeFsinfoUptoSaid : Prop := fnExactEncodeFsinfoUptoRow.holds Tryd.pinned (OpenSpec.upto fnExactEncodeFsinfoSpec)

/-- 'laws.FnExactDecodeFsinfo', WHERE WHAT IT READS IS OF BULK AT MOST 1048576: true; the input reads as it did. -/
def fnExactDecodeFsinfoUptoRow : OpenClaim := { program := "ytkghgjehjchajaadoor", sum := "a2be4f5438a652a1e2abe2eceb81aae8a2d5acaff0fb5218735e6d89f4aa2724", func := "loop.example/s02533/laws.FnExactDecodeFsinfo", spec := "fnExactDecodeFsinfo", unfollowed := true, recurses := true, named := ["loop.example/s02533/impl.recordMagic"], apart := false, laid := [("loop.example/s02533/impl.recordMagic", laid_loop_example_s02533_impl_recordMagic)], narrowed := true }
def FnExactDecodeFsinfoUptoSaid : Prop := fnExactDecodeFsinfoUptoRow.holds Tryd.pinned (OpenSpec.upto fnExactDecodeFsinfoSpec)

/-- 'laws.FnExactCpSteps', WHERE WHAT IT READS IS OF BULK AT MOST 1048576: true; the input reads as it did. -/
def fnExactCpStepsUptoRow : OpenClaim := { program := "ytkghgjehjchajaadoor", sum := "a2be4f5438a652a1e2abe2eceb81aae8a2d5acaff0fb5218735e6d89f4aa2724", func := "loop.example/s02533/laws.FnExactCpSteps", spec := "fnExactCpSteps", named := ["loop.example/s02533/impl.recordMagic"], apart := false, laid := [("loop.example/s02533/impl.recordMagic", laid_loop_example_s02533_impl_recordMagic)], narrowed := true }
def FnExactCpStepsUptoSaid : Prop := fnExactCpStepsUptoRow.holds Tryd.pinned (OpenSpec.upto fnExactCpStepsSpec)

/-- 'laws.FnExactChooseFsinfo', WHERE WHAT IT READS IS OF BULK AT MOST 1048576: true; the input reads as it did. -/
def fnExactChooseFsinfoUptoRow : OpenClaim := { program := "ytkghgjehjchajaadoor", sum := "a2be4f5438a652a1e2abe2eceb81aae8a2d5acaff0fb5218735e6d89f4aa2724", func := "loop.example/s02533/laws.FnExactChooseFsinfo", spec := "fnExactChooseFsinfo", inPlace := ["internal/reflectlite.ValueOf", "(internal/reflectlite.Value).Type", "(internal/reflectlite.Value).IsNil", "internal/reflectlite.TypeOf", "(internal/reflectlite.Value).Elem", "(internal/reflectlite.Value).Set"], unfollowed := true, recurses := true, named := ["loop.example/s02533/impl.recordMagic", "errors.errorType"], apart := false, laid := [("errors.errorType", laid_errors_errorType), ("loop.example/s02533/impl.recordMagic", laid_loop_example_s02533_impl_recordMagic)], narrowed := true }
def FnExactChooseFsinfoUptoSaid : Prop := fnExactChooseFsinfoUptoRow.holds Tryd.pinned (OpenSpec.upto fnExactChooseFsinfoSpec)

end Rows
end Go.Proofs.YtkghgjehjchajaaDoor
