/-
  NARROWER THAN 'FOR EVERY INPUT', by the rows' own cells (each row's printed sentence says how): LempelBack: laid · LempelParse: laid · LempelSlide: laid · LempelUnslide: laid · LempelText: laid.
  DERIVED. THE GIVEN ROWS OF THIS SEAT. 5 by the template 'for every input the law returns true; each argument reads behind the call as it read before'; 0 by the template 'total and deterministic' (their statements: YtaonemghafoolaaDoorTotals.lean).
  GIVEN WITH THE SEED: the statements are not yours to turn. If you find one false, say at which input.
  Laid BY PROGRAM, IN A SANDBOX (cutbox-rows.mjs): the forced cells as the released guide's own fill.sh prints them over the translation e52e5c2d394031a6… (all of the seat's roots in one cut). By AI agents, Wed Nov 11 2026. No macro, syntax, notation, axiom, sorry.
-/
import Derived.Test.YtaonemghafoolaaDoorChecked
import GoSem.Claim
import GoSem.ClaimJoined
import GoSem.ClaimMapViews
import Derived.JoinedTies
import Derived.KernelRfl
namespace Go.Proofs.YtaonemghafoolaaDoor
/- THE CELL 'sum', in the pinned program and in every row, IS THE sha256 OF THE DUMP (.gsa) THAT YtaonemghafoolaaDoorProg.lean LOADS. Nothing in Lean hashes anything: it is a label: what it is worth is what the hold of that sum in a sandbox is worth. -/
noncomputable def Tryd.pinned : Pinned := { name := "ytaonemghafoolaadoor", sum := "e52e5c2d394031a630e354e2634288322f718b8ccf51ef6b7b6ea87c7d01c5c0", checked := Tryd.checked }
namespace Rows
def none {H : Type} : Left H := { results := [], args := [] }

/- WHAT THE LISTED PACKAGE-LEVEL VARIABLES READ AS WHEN THE CALL BEGINS. Each datum BY PROGRAM (the guide's laid-datum.mjs) off the statement by which the dump's own 'gosem.cut.vars' lays the variable. In a bare row this is a premise. The card (YtaonemghafoolaaDoorCards.lean) ties it to the program's text. -/
def laid_demon_api_ErrBound {H : Type} : DataW H := .iface "*errors.errorString" (.ptr (.agg [.lit (.string [100, 101, 109, 111, 110, 58, 32, 98, 111, 117, 110, 100])]))
def laid_demon_api_ErrShape {H : Type} : DataW H := .iface "*errors.errorString" (.ptr (.agg [.lit (.string [100, 101, 109, 111, 110, 58, 32, 115, 104, 97, 112, 101])]))
def laid_errors_errorType {H : Type} : DataW H := .iface "internal/reflectlite.rtype" (.agg [.ptr (.lit (.string [101, 114, 114, 111, 114]))])
def laid_demon_api_ErrText {H : Type} : DataW H := .iface "*errors.errorString" (.ptr (.agg [.lit (.string [100, 101, 109, 111, 110, 58, 32, 116, 101, 120, 116])]))
def laid_demon_api_ErrZero {H : Type} : DataW H := .iface "*errors.errorString" (.ptr (.agg [.lit (.string [100, 101, 109, 111, 110, 58, 32, 122, 101, 114, 111])]))
def laid_demon_api_ErrName {H : Type} : DataW H := .iface "*errors.errorString" (.ptr (.agg [.lit (.string [100, 101, 109, 111, 110, 58, 32, 110, 97, 109, 101])]))
def laid_demon_api_ErrNone {H : Type} : DataW H := .iface "*errors.errorString" (.ptr (.agg [.lit (.string [100, 101, 109, 111, 110, 58, 32, 110, 111, 110, 101])]))
def laid_demon_api_ErrOrder {H : Type} : DataW H := .iface "*errors.errorString" (.ptr (.agg [.lit (.string [100, 101, 109, 111, 110, 58, 32, 111, 114, 100, 101, 114])]))
def laid_demon_api_ErrKind {H : Type} : DataW H := .iface "*errors.errorString" (.ptr (.agg [.lit (.string [100, 101, 109, 111, 110, 58, 32, 107, 105, 110, 100])]))

/-- 'demonlaw2.LempelBack': WHATEVER THE INPUT: true; the input reads as it did. -/
def lempelBackSpec : ChangeSpec := { name := "lempelBack", fn := fun _ => fun
  | [d1, d2] => { results := [.lit (.bool true)], args := [d1, d2] }
  | _ => none }
def lempelBackRow : OpenClaim := { program := "ytaonemghafoolaadoor", sum := "e52e5c2d394031a630e354e2634288322f718b8ccf51ef6b7b6ea87c7d01c5c0", func := "demon/demonlaw2.LempelBack", spec := "lempelBack", inPlace := ["internal/abi.NoEscape"], named := ["demon/api.ErrBound", "demon/api.ErrShape"], apart := false, laid := [("demon/api.ErrBound", laid_demon_api_ErrBound), ("demon/api.ErrShape", laid_demon_api_ErrShape)] }
def LempelBackSaid : Prop := lempelBackRow.holds Tryd.pinned (OpenSpec.ofChange lempelBackSpec)

/-- ITS FALSE NEIGHBOUR: 'it returns false'. Refute it at one input. -/
def lempelBackWrong : ChangeSpec := { name := "lempelBack", fn := fun _ => fun
  | [d1, d2] => { results := [.lit (.bool false)], args := [d1, d2] }
  | _ => none }
def LempelBackWrongFalsely : Prop := lempelBackRow.holds Tryd.pinned (OpenSpec.ofChange lempelBackWrong)

/-- 'demonlaw2.LempelParse': WHATEVER THE INPUT: true; the input reads as it did. -/
def lempelParseSpec : ChangeSpec := { name := "lempelParse", fn := fun _ => fun
  | [d] => { results := [.lit (.bool true)], args := [d] }
  | _ => none }
def lempelParseRow : OpenClaim := { program := "ytaonemghafoolaadoor", sum := "e52e5c2d394031a630e354e2634288322f718b8ccf51ef6b7b6ea87c7d01c5c0", func := "demon/demonlaw2.LempelParse", spec := "lempelParse", inPlace := ["internal/reflectlite.ValueOf", "(internal/reflectlite.Value).Type", "(internal/reflectlite.Value).IsNil", "internal/reflectlite.TypeOf", "(internal/reflectlite.Value).Elem", "(internal/reflectlite.Value).Set"], unfollowed := true, recurses := true, named := ["demon/api.ErrBound", "demon/api.ErrText", "demon/api.ErrShape", "demon/api.ErrZero", "demon/api.ErrName", "demon/api.ErrNone", "demon/api.ErrOrder", "demon/api.ErrKind", "errors.errorType"], apart := false, laid := [("errors.errorType", laid_errors_errorType), ("demon/api.ErrText", laid_demon_api_ErrText), ("demon/api.ErrBound", laid_demon_api_ErrBound), ("demon/api.ErrShape", laid_demon_api_ErrShape), ("demon/api.ErrZero", laid_demon_api_ErrZero), ("demon/api.ErrName", laid_demon_api_ErrName), ("demon/api.ErrNone", laid_demon_api_ErrNone), ("demon/api.ErrOrder", laid_demon_api_ErrOrder), ("demon/api.ErrKind", laid_demon_api_ErrKind)] }
def LempelParseSaid : Prop := lempelParseRow.holds Tryd.pinned (OpenSpec.ofChange lempelParseSpec)

/-- ITS FALSE NEIGHBOUR: 'it returns false'. Refute it at one input. -/
def lempelParseWrong : ChangeSpec := { name := "lempelParse", fn := fun _ => fun
  | [d] => { results := [.lit (.bool false)], args := [d] }
  | _ => none }
def LempelParseWrongFalsely : Prop := lempelParseRow.holds Tryd.pinned (OpenSpec.ofChange lempelParseWrong)

/-- 'demonlaw2.LempelSlide': WHATEVER THE INPUT: true; the input reads as it did. -/
def lempelSlideSpec : ChangeSpec := { name := "lempelSlide", fn := fun _ => fun
  | [d1, d2] => { results := [.lit (.bool true)], args := [d1, d2] }
  | _ => none }
def lempelSlideRow : OpenClaim := { program := "ytaonemghafoolaadoor", sum := "e52e5c2d394031a630e354e2634288322f718b8ccf51ef6b7b6ea87c7d01c5c0", func := "demon/demonlaw2.LempelSlide", spec := "lempelSlide", inPlace := ["internal/reflectlite.ValueOf", "(internal/reflectlite.Value).Type", "(internal/reflectlite.Value).IsNil", "internal/reflectlite.TypeOf", "(internal/reflectlite.Value).Elem", "(internal/reflectlite.Value).Set"], unfollowed := true, recurses := true, named := ["demon/api.ErrBound", "demon/api.ErrText", "demon/api.ErrShape", "demon/api.ErrZero", "demon/api.ErrName", "demon/api.ErrNone", "demon/api.ErrOrder", "demon/api.ErrKind", "errors.errorType"], apart := false, laid := [("errors.errorType", laid_errors_errorType), ("demon/api.ErrText", laid_demon_api_ErrText), ("demon/api.ErrBound", laid_demon_api_ErrBound), ("demon/api.ErrShape", laid_demon_api_ErrShape), ("demon/api.ErrZero", laid_demon_api_ErrZero), ("demon/api.ErrName", laid_demon_api_ErrName), ("demon/api.ErrNone", laid_demon_api_ErrNone), ("demon/api.ErrOrder", laid_demon_api_ErrOrder), ("demon/api.ErrKind", laid_demon_api_ErrKind)] }
def LempelSlideSaid : Prop := lempelSlideRow.holds Tryd.pinned (OpenSpec.ofChange lempelSlideSpec)

/-- ITS FALSE NEIGHBOUR: 'it returns false'. Refute it at one input. -/
def lempelSlideWrong : ChangeSpec := { name := "lempelSlide", fn := fun _ => fun
  | [d1, d2] => { results := [.lit (.bool false)], args := [d1, d2] }
  | _ => none }
def LempelSlideWrongFalsely : Prop := lempelSlideRow.holds Tryd.pinned (OpenSpec.ofChange lempelSlideWrong)

/-- 'demonlaw2.LempelUnslide': WHATEVER THE INPUT: true; the input reads as it did. -/
def lempelUnslideSpec : ChangeSpec := { name := "lempelUnslide", fn := fun _ => fun
  | [d] => { results := [.lit (.bool true)], args := [d] }
  | _ => none }
def lempelUnslideRow : OpenClaim := { program := "ytaonemghafoolaadoor", sum := "e52e5c2d394031a630e354e2634288322f718b8ccf51ef6b7b6ea87c7d01c5c0", func := "demon/demonlaw2.LempelUnslide", spec := "lempelUnslide", inPlace := ["internal/reflectlite.ValueOf", "(internal/reflectlite.Value).Type", "(internal/reflectlite.Value).IsNil", "internal/reflectlite.TypeOf", "(internal/reflectlite.Value).Elem", "(internal/reflectlite.Value).Set"], unfollowed := true, recurses := true, named := ["demon/api.ErrBound", "demon/api.ErrShape", "demon/api.ErrText", "demon/api.ErrZero", "demon/api.ErrName", "demon/api.ErrNone", "demon/api.ErrOrder", "demon/api.ErrKind", "errors.errorType"], apart := false, laid := [("errors.errorType", laid_errors_errorType), ("demon/api.ErrText", laid_demon_api_ErrText), ("demon/api.ErrBound", laid_demon_api_ErrBound), ("demon/api.ErrShape", laid_demon_api_ErrShape), ("demon/api.ErrZero", laid_demon_api_ErrZero), ("demon/api.ErrName", laid_demon_api_ErrName), ("demon/api.ErrNone", laid_demon_api_ErrNone), ("demon/api.ErrOrder", laid_demon_api_ErrOrder), ("demon/api.ErrKind", laid_demon_api_ErrKind)] }
def LempelUnslideSaid : Prop := lempelUnslideRow.holds Tryd.pinned (OpenSpec.ofChange lempelUnslideSpec)

/-- ITS FALSE NEIGHBOUR: 'it returns false'. Refute it at one input. -/
def lempelUnslideWrong : ChangeSpec := { name := "lempelUnslide", fn := fun _ => fun
  | [d] => { results := [.lit (.bool false)], args := [d] }
  | _ => none }
def LempelUnslideWrongFalsely : Prop := lempelUnslideRow.holds Tryd.pinned (OpenSpec.ofChange lempelUnslideWrong)

/-- 'demonlaw2.LempelText': WHATEVER THE INPUT: true; the input reads as it did. -/
def lempelTextSpec : ChangeSpec := { name := "lempelText", fn := fun _ => fun
  | [d] => { results := [.lit (.bool true)], args := [d] }
  | _ => none }
def lempelTextRow : OpenClaim := { program := "ytaonemghafoolaadoor", sum := "e52e5c2d394031a630e354e2634288322f718b8ccf51ef6b7b6ea87c7d01c5c0", func := "demon/demonlaw2.LempelText", spec := "lempelText", inPlace := ["internal/abi.NoEscape", "internal/reflectlite.ValueOf", "(internal/reflectlite.Value).Type", "(internal/reflectlite.Value).IsNil", "internal/reflectlite.TypeOf", "(internal/reflectlite.Value).Elem", "(internal/reflectlite.Value).Set"], unfollowed := true, recurses := true, named := ["demon/api.ErrBound", "demon/api.ErrShape", "demon/api.ErrText", "demon/api.ErrZero", "demon/api.ErrName", "demon/api.ErrNone", "demon/api.ErrOrder", "demon/api.ErrKind", "errors.errorType"], apart := false, laid := [("errors.errorType", laid_errors_errorType), ("demon/api.ErrText", laid_demon_api_ErrText), ("demon/api.ErrBound", laid_demon_api_ErrBound), ("demon/api.ErrShape", laid_demon_api_ErrShape), ("demon/api.ErrZero", laid_demon_api_ErrZero), ("demon/api.ErrName", laid_demon_api_ErrName), ("demon/api.ErrNone", laid_demon_api_ErrNone), ("demon/api.ErrOrder", laid_demon_api_ErrOrder), ("demon/api.ErrKind", laid_demon_api_ErrKind)] }
def LempelTextSaid : Prop := lempelTextRow.holds Tryd.pinned (OpenSpec.ofChange lempelTextSpec)

/-- ITS FALSE NEIGHBOUR: 'it returns false'. Refute it at one input. -/
def lempelTextWrong : ChangeSpec := { name := "lempelText", fn := fun _ => fun
  | [d] => { results := [.lit (.bool false)], args := [d] }
  | _ => none }
def LempelTextWrongFalsely : Prop := lempelTextRow.holds Tryd.pinned (OpenSpec.ofChange lempelTextWrong)

/- THE SECOND FORM. 'bulk': how many values and letters a reading holds, each counted each time it is reached (what is shared counts as often as it is met; a slice's spare places count too). A statement '..UptoSaid' is the law's where the arguments, and the package variables that the reading takes, are together of bulk at most 1048576: NARROWER than '..Said'. Prove '..Said' where nothing that the law and all that it calls make is longer than what came in: it says more and counts as full. Else prove '..UptoSaid'. A law counts once. -/
mutual
def uptoBulk {H : Type} : DataW H → Nat
  | .lit (.string bytes) => bytes.length + 1
  | .lit _ => 1
  | .nil => 1
  | .ptr d => uptoBulk d + 1
  | .slice elems spare => uptoBulkAll elems + uptoBulkAll spare + 1
  | .agg parts => uptoBulkAll parts + 1
  | .iface _ d => uptoBulk d + 1
  | .map entries => uptoBulkEntries entries + 1
  | .held _ => 1
def uptoBulkAll {H : Type} : List (DataW H) → Nat
  | [] => 0
  | d :: r => uptoBulk d + uptoBulkAll r
def uptoBulkEntries {H : Type} : List (Lit × DataW H) → Nat
  | [] => 0
  | x :: r => uptoBulkEntry x + uptoBulkEntries r
def uptoBulkEntry {H : Type} : Lit × DataW H → Nat
  | (.string bytes, d) => bytes.length + uptoBulk d + 1
  | (_, d) => uptoBulk d + 1
 end
def uptoSmall : (H : Type) → List (DataW H) → Bool := fun _ ds => decide (uptoBulkAll ds ≤ 1048576)
def OpenSpec.upto (s : _root_.Go.ChangeSpec) : _root_.Go.OpenSpec := { _root_.Go.OpenSpec.ofChange s with cond := some uptoSmall }

/-- 'demonlaw2.LempelBack', WHERE WHAT IT READS IS OF BULK AT MOST 1048576: true; the input reads as it did. -/
def lempelBackUptoRow : OpenClaim := { program := "ytaonemghafoolaadoor", sum := "e52e5c2d394031a630e354e2634288322f718b8ccf51ef6b7b6ea87c7d01c5c0", func := "demon/demonlaw2.LempelBack", spec := "lempelBack", inPlace := ["internal/abi.NoEscape"], named := ["demon/api.ErrBound", "demon/api.ErrShape"], apart := false, laid := [("demon/api.ErrBound", laid_demon_api_ErrBound), ("demon/api.ErrShape", laid_demon_api_ErrShape)], narrowed := true }
def LempelBackUptoSaid : Prop := lempelBackUptoRow.holds Tryd.pinned (OpenSpec.upto lempelBackSpec)

/-- 'demonlaw2.LempelParse', WHERE WHAT IT READS IS OF BULK AT MOST 1048576: true; the input reads as it did. -/
def lempelParseUptoRow : OpenClaim := { program := "ytaonemghafoolaadoor", sum := "e52e5c2d394031a630e354e2634288322f718b8ccf51ef6b7b6ea87c7d01c5c0", func := "demon/demonlaw2.LempelParse", spec := "lempelParse", inPlace := ["internal/reflectlite.ValueOf", "(internal/reflectlite.Value).Type", "(internal/reflectlite.Value).IsNil", "internal/reflectlite.TypeOf", "(internal/reflectlite.Value).Elem", "(internal/reflectlite.Value).Set"], unfollowed := true, recurses := true, named := ["demon/api.ErrBound", "demon/api.ErrText", "demon/api.ErrShape", "demon/api.ErrZero", "demon/api.ErrName", "demon/api.ErrNone", "demon/api.ErrOrder", "demon/api.ErrKind", "errors.errorType"], apart := false, laid := [("errors.errorType", laid_errors_errorType), ("demon/api.ErrText", laid_demon_api_ErrText), ("demon/api.ErrBound", laid_demon_api_ErrBound), ("demon/api.ErrShape", laid_demon_api_ErrShape), ("demon/api.ErrZero", laid_demon_api_ErrZero), ("demon/api.ErrName", laid_demon_api_ErrName), ("demon/api.ErrNone", laid_demon_api_ErrNone), ("demon/api.ErrOrder", laid_demon_api_ErrOrder), ("demon/api.ErrKind", laid_demon_api_ErrKind)], narrowed := true }
def LempelParseUptoSaid : Prop := lempelParseUptoRow.holds Tryd.pinned (OpenSpec.upto lempelParseSpec)

/-- 'demonlaw2.LempelSlide', WHERE WHAT IT READS IS OF BULK AT MOST 1048576: true; the input reads as it did. -/
def lempelSlideUptoRow : OpenClaim := { program := "ytaonemghafoolaadoor", sum := "e52e5c2d394031a630e354e2634288322f718b8ccf51ef6b7b6ea87c7d01c5c0", func := "demon/demonlaw2.LempelSlide", spec := "lempelSlide", inPlace := ["internal/reflectlite.ValueOf", "(internal/reflectlite.Value).Type", "(internal/reflectlite.Value).IsNil", "internal/reflectlite.TypeOf", "(internal/reflectlite.Value).Elem", "(internal/reflectlite.Value).Set"], unfollowed := true, recurses := true, named := ["demon/api.ErrBound", "demon/api.ErrText", "demon/api.ErrShape", "demon/api.ErrZero", "demon/api.ErrName", "demon/api.ErrNone", "demon/api.ErrOrder", "demon/api.ErrKind", "errors.errorType"], apart := false, laid := [("errors.errorType", laid_errors_errorType), ("demon/api.ErrText", laid_demon_api_ErrText), ("demon/api.ErrBound", laid_demon_api_ErrBound), ("demon/api.ErrShape", laid_demon_api_ErrShape), ("demon/api.ErrZero", laid_demon_api_ErrZero), ("demon/api.ErrName", laid_demon_api_ErrName), ("demon/api.ErrNone", laid_demon_api_ErrNone), ("demon/api.ErrOrder", laid_demon_api_ErrOrder), ("demon/api.ErrKind", laid_demon_api_ErrKind)], narrowed := true }
def LempelSlideUptoSaid : Prop := lempelSlideUptoRow.holds Tryd.pinned (OpenSpec.upto lempelSlideSpec)

/-- 'demonlaw2.LempelUnslide', WHERE WHAT IT READS IS OF BULK AT MOST 1048576: true; the input reads as it did. -/
def lempelUnslideUptoRow : OpenClaim := { program := "ytaonemghafoolaadoor", sum := "e52e5c2d394031a630e354e2634288322f718b8ccf51ef6b7b6ea87c7d01c5c0", func := "demon/demonlaw2.LempelUnslide", spec := "lempelUnslide", inPlace := ["internal/reflectlite.ValueOf", "(internal/reflectlite.Value).Type", "(internal/reflectlite.Value).IsNil", "internal/reflectlite.TypeOf", "(internal/reflectlite.Value).Elem", "(internal/reflectlite.Value).Set"], unfollowed := true, recurses := true, named := ["demon/api.ErrBound", "demon/api.ErrShape", "demon/api.ErrText", "demon/api.ErrZero", "demon/api.ErrName", "demon/api.ErrNone", "demon/api.ErrOrder", "demon/api.ErrKind", "errors.errorType"], apart := false, laid := [("errors.errorType", laid_errors_errorType), ("demon/api.ErrText", laid_demon_api_ErrText), ("demon/api.ErrBound", laid_demon_api_ErrBound), ("demon/api.ErrShape", laid_demon_api_ErrShape), ("demon/api.ErrZero", laid_demon_api_ErrZero), ("demon/api.ErrName", laid_demon_api_ErrName), ("demon/api.ErrNone", laid_demon_api_ErrNone), ("demon/api.ErrOrder", laid_demon_api_ErrOrder), ("demon/api.ErrKind", laid_demon_api_ErrKind)], narrowed := true }
def LempelUnslideUptoSaid : Prop := lempelUnslideUptoRow.holds Tryd.pinned (OpenSpec.upto lempelUnslideSpec)

/-- 'demonlaw2.LempelText', WHERE WHAT IT READS IS OF BULK AT MOST 1048576: true; the input reads as it did. -/
def lempelTextUptoRow : OpenClaim := { program := "ytaonemghafoolaadoor", sum := "e52e5c2d394031a630e354e2634288322f718b8ccf51ef6b7b6ea87c7d01c5c0", func := "demon/demonlaw2.LempelText", spec := "lempelText", inPlace := ["internal/abi.NoEscape", "internal/reflectlite.ValueOf", "(internal/reflectlite.Value).Type", "(internal/reflectlite.Value).IsNil", "internal/reflectlite.TypeOf", "(internal/reflectlite.Value).Elem", "(internal/reflectlite.Value).Set"], unfollowed := true, recurses := true, named := ["demon/api.ErrBound", "demon/api.ErrShape", "demon/api.ErrText", "demon/api.ErrZero", "demon/api.ErrName", "demon/api.ErrNone", "demon/api.ErrOrder", "demon/api.ErrKind", "errors.errorType"], apart := false, laid := [("errors.errorType", laid_errors_errorType), ("demon/api.ErrText", laid_demon_api_ErrText), ("demon/api.ErrBound", laid_demon_api_ErrBound), ("demon/api.ErrShape", laid_demon_api_ErrShape), ("demon/api.ErrZero", laid_demon_api_ErrZero), ("demon/api.ErrName", laid_demon_api_ErrName), ("demon/api.ErrNone", laid_demon_api_ErrNone), ("demon/api.ErrOrder", laid_demon_api_ErrOrder), ("demon/api.ErrKind", laid_demon_api_ErrKind)], narrowed := true }
def LempelTextUptoSaid : Prop := lempelTextUptoRow.holds Tryd.pinned (OpenSpec.upto lempelTextSpec)

end Rows
end Go.Proofs.YtaonemghafoolaaDoor
