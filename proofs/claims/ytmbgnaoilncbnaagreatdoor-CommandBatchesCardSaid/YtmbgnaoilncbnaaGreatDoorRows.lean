/-
  NARROWER THAN 'FOR EVERY INPUT', by the rows' own cells (each row's printed sentence says how): TcodecBytes: laid · TcodecParses: laid · TcodecBack: laid · TcodecApart: laid · CommandBytes: laid · CommandOne: laid · CommandBack: laid · CommandBatches: laid.
  DERIVED. THE GIVEN ROWS OF THIS SEAT. 8 by the template 'for every input the law returns true; each argument reads behind the call as it read before'; 0 by the template 'total and deterministic' (their statements: YtmbgnaoilncbnaaGreatDoorTotals.lean).
  GIVEN WITH THE SEED: the statements are not yours to turn. If you find one false, say at which input.
  Laid BY PROGRAM, IN A SANDBOX (cutbox-rows.mjs): the forced cells as the released guide's own fill.sh prints them over the translation 8809e6d46f1385ca… (all of the seat's roots in one cut). By AI agents, Wed Nov 11 2026. No macro, syntax, notation, axiom, sorry.
-/
import Derived.Test.YtmbgnaoilncbnaaGreatDoorChecked
import GoSem.Claim
import GoSem.ClaimJoined
import GoSem.ClaimMapViews
import Derived.JoinedTies
import Derived.KernelRfl
namespace Go.Proofs.YtmbgnaoilncbnaaGreatDoor
/- THE CELL 'sum', in the pinned program and in every row, IS THE sha256 OF THE DUMP (.gsa) THAT YtmbgnaoilncbnaaGreatDoorProg.lean LOADS. Nothing in Lean hashes anything: it is a label: what it is worth is what the hold of that sum in a sandbox is worth. -/
noncomputable def Tryz.pinned : Pinned := { name := "ytmbgnaoilncbnaagreatdoor", sum := "8809e6d46f1385caf5c859c9e681b029084881df5801269dcac3980ad5b6842b", checked := Tryz.checked }
namespace Rows
def none {H : Type} : Left H := { results := [], args := [] }

/- WHAT THE LISTED PACKAGE-LEVEL VARIABLES READ AS WHEN THE CALL BEGINS. Each datum BY PROGRAM (the guide's laid-datum.mjs) off the statement by which the dump's own 'gosem.cut.vars' lays the variable. In a bare row this is a premise. The card (YtmbgnaoilncbnaaGreatDoorCards.lean) ties it to the program's text. -/
def laid_math_bits_deBruijn32tab {H : Type} : DataW H := .agg [.lit (.int .u8 0), .lit (.int .u8 1), .lit (.int .u8 28), .lit (.int .u8 2), .lit (.int .u8 29), .lit (.int .u8 14), .lit (.int .u8 24), .lit (.int .u8 3), .lit (.int .u8 30), .lit (.int .u8 22), .lit (.int .u8 20), .lit (.int .u8 15), .lit (.int .u8 25), .lit (.int .u8 17), .lit (.int .u8 4), .lit (.int .u8 8), .lit (.int .u8 31), .lit (.int .u8 27), .lit (.int .u8 13), .lit (.int .u8 23), .lit (.int .u8 21), .lit (.int .u8 19), .lit (.int .u8 16), .lit (.int .u8 7), .lit (.int .u8 26), .lit (.int .u8 12), .lit (.int .u8 18), .lit (.int .u8 6), .lit (.int .u8 11), .lit (.int .u8 5), .lit (.int .u8 10), .lit (.int .u8 9)]
def laid_math_bits_deBruijn64tab {H : Type} : DataW H := .agg [.lit (.int .u8 0), .lit (.int .u8 1), .lit (.int .u8 56), .lit (.int .u8 2), .lit (.int .u8 57), .lit (.int .u8 49), .lit (.int .u8 28), .lit (.int .u8 3), .lit (.int .u8 61), .lit (.int .u8 58), .lit (.int .u8 42), .lit (.int .u8 50), .lit (.int .u8 38), .lit (.int .u8 29), .lit (.int .u8 17), .lit (.int .u8 4), .lit (.int .u8 62), .lit (.int .u8 47), .lit (.int .u8 59), .lit (.int .u8 36), .lit (.int .u8 45), .lit (.int .u8 43), .lit (.int .u8 51), .lit (.int .u8 22), .lit (.int .u8 53), .lit (.int .u8 39), .lit (.int .u8 33), .lit (.int .u8 30), .lit (.int .u8 24), .lit (.int .u8 18), .lit (.int .u8 12), .lit (.int .u8 5), .lit (.int .u8 63), .lit (.int .u8 55), .lit (.int .u8 48), .lit (.int .u8 27), .lit (.int .u8 60), .lit (.int .u8 41), .lit (.int .u8 37), .lit (.int .u8 16), .lit (.int .u8 46), .lit (.int .u8 35), .lit (.int .u8 44), .lit (.int .u8 21), .lit (.int .u8 52), .lit (.int .u8 32), .lit (.int .u8 23), .lit (.int .u8 11), .lit (.int .u8 54), .lit (.int .u8 26), .lit (.int .u8 40), .lit (.int .u8 15), .lit (.int .u8 34), .lit (.int .u8 20), .lit (.int .u8 31), .lit (.int .u8 10), .lit (.int .u8 25), .lit (.int .u8 14), .lit (.int .u8 19), .lit (.int .u8 9), .lit (.int .u8 13), .lit (.int .u8 8), .lit (.int .u8 7), .lit (.int .u8 6)]
def laid_internal_strconv_uint64pow10 {H : Type} : DataW H := .agg [.lit (.int .u64 1), .lit (.int .u64 10), .lit (.int .u64 100), .lit (.int .u64 1000), .lit (.int .u64 10000), .lit (.int .u64 100000), .lit (.int .u64 1000000), .lit (.int .u64 10000000), .lit (.int .u64 100000000), .lit (.int .u64 1000000000), .lit (.int .u64 10000000000), .lit (.int .u64 100000000000), .lit (.int .u64 1000000000000), .lit (.int .u64 10000000000000), .lit (.int .u64 100000000000000), .lit (.int .u64 1000000000000000), .lit (.int .u64 10000000000000000), .lit (.int .u64 100000000000000000), .lit (.int .u64 1000000000000000000), .lit (.int .u64 10000000000000000000)]

/-- 'decretallaw19.TcodecBytes': WHATEVER THE INPUT: true; the input reads as it did. -/
def tcodecBytesSpec : ChangeSpec := { name := "tcodecBytes", fn := fun _ => fun
  | [d] => { results := [.lit (.bool true)], args := [d] }
  | _ => none }
def tcodecBytesRow : OpenClaim := { program := "ytmbgnaoilncbnaagreatdoor", sum := "8809e6d46f1385caf5c859c9e681b029084881df5801269dcac3980ad5b6842b", func := "decretal/decretallaw19.TcodecBytes", spec := "tcodecBytes", inPlace := ["internal/abi.NoEscape", "internal/bytealg.MakeNoZero"], unfollowed := true, recurses := true, named := ["internal/strconv.uint64pow10", "math/bits.deBruijn32tab", "math/bits.deBruijn64tab"], apart := false, laid := [("math/bits.deBruijn32tab", laid_math_bits_deBruijn32tab), ("math/bits.deBruijn64tab", laid_math_bits_deBruijn64tab), ("internal/strconv.uint64pow10", laid_internal_strconv_uint64pow10)] }
def TcodecBytesSaid : Prop := tcodecBytesRow.holds Tryz.pinned (OpenSpec.ofChange tcodecBytesSpec)

/-- ITS FALSE NEIGHBOUR: 'it returns false'. Refute it at one input. -/
def tcodecBytesWrong : ChangeSpec := { name := "tcodecBytes", fn := fun _ => fun
  | [d] => { results := [.lit (.bool false)], args := [d] }
  | _ => none }
def TcodecBytesWrongFalsely : Prop := tcodecBytesRow.holds Tryz.pinned (OpenSpec.ofChange tcodecBytesWrong)

/-- 'decretallaw19.TcodecParses': WHATEVER THE INPUT: true; the input reads as it did. -/
def tcodecParsesSpec : ChangeSpec := { name := "tcodecParses", fn := fun _ => fun
  | [d] => { results := [.lit (.bool true)], args := [d] }
  | _ => none }
def tcodecParsesRow : OpenClaim := { program := "ytmbgnaoilncbnaagreatdoor", sum := "8809e6d46f1385caf5c859c9e681b029084881df5801269dcac3980ad5b6842b", func := "decretal/decretallaw19.TcodecParses", spec := "tcodecParses", inPlace := ["internal/abi.NoEscape", "internal/bytealg.MakeNoZero"], unfollowed := true, recurses := true, named := ["internal/strconv.uint64pow10", "math/bits.deBruijn32tab", "math/bits.deBruijn64tab"], apart := false, laid := [("math/bits.deBruijn32tab", laid_math_bits_deBruijn32tab), ("math/bits.deBruijn64tab", laid_math_bits_deBruijn64tab), ("internal/strconv.uint64pow10", laid_internal_strconv_uint64pow10)] }
def TcodecParsesSaid : Prop := tcodecParsesRow.holds Tryz.pinned (OpenSpec.ofChange tcodecParsesSpec)

/-- ITS FALSE NEIGHBOUR: 'it returns false'. Refute it at one input. -/
def tcodecParsesWrong : ChangeSpec := { name := "tcodecParses", fn := fun _ => fun
  | [d] => { results := [.lit (.bool false)], args := [d] }
  | _ => none }
def TcodecParsesWrongFalsely : Prop := tcodecParsesRow.holds Tryz.pinned (OpenSpec.ofChange tcodecParsesWrong)

/-- 'decretallaw19.TcodecBack': WHATEVER THE INPUT: true; the input reads as it did. -/
def tcodecBackSpec : ChangeSpec := { name := "tcodecBack", fn := fun _ => fun
  | [d1, d2] => { results := [.lit (.bool true)], args := [d1, d2] }
  | _ => none }
def tcodecBackRow : OpenClaim := { program := "ytmbgnaoilncbnaagreatdoor", sum := "8809e6d46f1385caf5c859c9e681b029084881df5801269dcac3980ad5b6842b", func := "decretal/decretallaw19.TcodecBack", spec := "tcodecBack", inPlace := ["internal/abi.NoEscape", "internal/bytealg.MakeNoZero"], unfollowed := true, recurses := true, named := ["internal/strconv.uint64pow10", "math/bits.deBruijn32tab", "math/bits.deBruijn64tab"], apart := false, laid := [("math/bits.deBruijn32tab", laid_math_bits_deBruijn32tab), ("math/bits.deBruijn64tab", laid_math_bits_deBruijn64tab), ("internal/strconv.uint64pow10", laid_internal_strconv_uint64pow10)] }
def TcodecBackSaid : Prop := tcodecBackRow.holds Tryz.pinned (OpenSpec.ofChange tcodecBackSpec)

/-- ITS FALSE NEIGHBOUR: 'it returns false'. Refute it at one input. -/
def tcodecBackWrong : ChangeSpec := { name := "tcodecBack", fn := fun _ => fun
  | [d1, d2] => { results := [.lit (.bool false)], args := [d1, d2] }
  | _ => none }
def TcodecBackWrongFalsely : Prop := tcodecBackRow.holds Tryz.pinned (OpenSpec.ofChange tcodecBackWrong)

/-- 'decretallaw19.TcodecApart': WHATEVER THE INPUT: true; the input reads as it did. -/
def tcodecApartSpec : ChangeSpec := { name := "tcodecApart", fn := fun _ => fun
  | [d1, d2] => { results := [.lit (.bool true)], args := [d1, d2] }
  | _ => none }
def tcodecApartRow : OpenClaim := { program := "ytmbgnaoilncbnaagreatdoor", sum := "8809e6d46f1385caf5c859c9e681b029084881df5801269dcac3980ad5b6842b", func := "decretal/decretallaw19.TcodecApart", spec := "tcodecApart", inPlace := ["internal/abi.NoEscape", "internal/bytealg.MakeNoZero"], unfollowed := true, recurses := true, named := ["internal/strconv.uint64pow10", "math/bits.deBruijn32tab", "math/bits.deBruijn64tab"], apart := false, laid := [("math/bits.deBruijn32tab", laid_math_bits_deBruijn32tab), ("math/bits.deBruijn64tab", laid_math_bits_deBruijn64tab), ("internal/strconv.uint64pow10", laid_internal_strconv_uint64pow10)] }
def TcodecApartSaid : Prop := tcodecApartRow.holds Tryz.pinned (OpenSpec.ofChange tcodecApartSpec)

/-- ITS FALSE NEIGHBOUR: 'it returns false'. Refute it at one input. -/
def tcodecApartWrong : ChangeSpec := { name := "tcodecApart", fn := fun _ => fun
  | [d1, d2] => { results := [.lit (.bool false)], args := [d1, d2] }
  | _ => none }
def TcodecApartWrongFalsely : Prop := tcodecApartRow.holds Tryz.pinned (OpenSpec.ofChange tcodecApartWrong)

/-- 'decretallaw27.CommandBytes': WHATEVER THE INPUT: true; the input reads as it did. -/
def commandBytesSpec : ChangeSpec := { name := "commandBytes", fn := fun _ => fun
  | [d1, d2] => { results := [.lit (.bool true)], args := [d1, d2] }
  | _ => none }
def commandBytesRow : OpenClaim := { program := "ytmbgnaoilncbnaagreatdoor", sum := "8809e6d46f1385caf5c859c9e681b029084881df5801269dcac3980ad5b6842b", func := "decretal/decretallaw27.CommandBytes", spec := "commandBytes", inPlace := ["internal/abi.NoEscape", "internal/bytealg.MakeNoZero"], unfollowed := true, recurses := true, named := ["internal/strconv.uint64pow10", "math/bits.deBruijn32tab", "math/bits.deBruijn64tab"], apart := false, laid := [("math/bits.deBruijn32tab", laid_math_bits_deBruijn32tab), ("math/bits.deBruijn64tab", laid_math_bits_deBruijn64tab), ("internal/strconv.uint64pow10", laid_internal_strconv_uint64pow10)] }
def CommandBytesSaid : Prop := commandBytesRow.holds Tryz.pinned (OpenSpec.ofChange commandBytesSpec)

/-- ITS FALSE NEIGHBOUR: 'it returns false'. Refute it at one input. -/
def commandBytesWrong : ChangeSpec := { name := "commandBytes", fn := fun _ => fun
  | [d1, d2] => { results := [.lit (.bool false)], args := [d1, d2] }
  | _ => none }
def CommandBytesWrongFalsely : Prop := commandBytesRow.holds Tryz.pinned (OpenSpec.ofChange commandBytesWrong)

/-- 'decretallaw27.CommandOne': WHATEVER THE INPUT: true; the input reads as it did. -/
def commandOneSpec : ChangeSpec := { name := "commandOne", fn := fun _ => fun
  | [d1, d2] => { results := [.lit (.bool true)], args := [d1, d2] }
  | _ => none }
def commandOneRow : OpenClaim := { program := "ytmbgnaoilncbnaagreatdoor", sum := "8809e6d46f1385caf5c859c9e681b029084881df5801269dcac3980ad5b6842b", func := "decretal/decretallaw27.CommandOne", spec := "commandOne", inPlace := ["internal/abi.NoEscape", "internal/bytealg.MakeNoZero"], unfollowed := true, recurses := true, named := ["internal/strconv.uint64pow10", "math/bits.deBruijn32tab", "math/bits.deBruijn64tab"], apart := false, laid := [("math/bits.deBruijn32tab", laid_math_bits_deBruijn32tab), ("math/bits.deBruijn64tab", laid_math_bits_deBruijn64tab), ("internal/strconv.uint64pow10", laid_internal_strconv_uint64pow10)] }
def CommandOneSaid : Prop := commandOneRow.holds Tryz.pinned (OpenSpec.ofChange commandOneSpec)

/-- ITS FALSE NEIGHBOUR: 'it returns false'. Refute it at one input. -/
def commandOneWrong : ChangeSpec := { name := "commandOne", fn := fun _ => fun
  | [d1, d2] => { results := [.lit (.bool false)], args := [d1, d2] }
  | _ => none }
def CommandOneWrongFalsely : Prop := commandOneRow.holds Tryz.pinned (OpenSpec.ofChange commandOneWrong)

/-- 'decretallaw27.CommandBack': WHATEVER THE INPUT: true; the input reads as it did. -/
def commandBackSpec : ChangeSpec := { name := "commandBack", fn := fun _ => fun
  | [d1, d2] => { results := [.lit (.bool true)], args := [d1, d2] }
  | _ => none }
def commandBackRow : OpenClaim := { program := "ytmbgnaoilncbnaagreatdoor", sum := "8809e6d46f1385caf5c859c9e681b029084881df5801269dcac3980ad5b6842b", func := "decretal/decretallaw27.CommandBack", spec := "commandBack", inPlace := ["internal/abi.NoEscape", "internal/bytealg.MakeNoZero"], unfollowed := true, recurses := true, named := ["internal/strconv.uint64pow10", "math/bits.deBruijn32tab", "math/bits.deBruijn64tab"], apart := false, laid := [("math/bits.deBruijn32tab", laid_math_bits_deBruijn32tab), ("math/bits.deBruijn64tab", laid_math_bits_deBruijn64tab), ("internal/strconv.uint64pow10", laid_internal_strconv_uint64pow10)] }
def CommandBackSaid : Prop := commandBackRow.holds Tryz.pinned (OpenSpec.ofChange commandBackSpec)

/-- ITS FALSE NEIGHBOUR: 'it returns false'. Refute it at one input. -/
def commandBackWrong : ChangeSpec := { name := "commandBack", fn := fun _ => fun
  | [d1, d2] => { results := [.lit (.bool false)], args := [d1, d2] }
  | _ => none }
def CommandBackWrongFalsely : Prop := commandBackRow.holds Tryz.pinned (OpenSpec.ofChange commandBackWrong)

/-- 'decretallaw27.CommandBatches': WHATEVER THE INPUT: true; the input reads as it did. -/
def commandBatchesSpec : ChangeSpec := { name := "commandBatches", fn := fun _ => fun
  | [d1, d2] => { results := [.lit (.bool true)], args := [d1, d2] }
  | _ => none }
def commandBatchesRow : OpenClaim := { program := "ytmbgnaoilncbnaagreatdoor", sum := "8809e6d46f1385caf5c859c9e681b029084881df5801269dcac3980ad5b6842b", func := "decretal/decretallaw27.CommandBatches", spec := "commandBatches", inPlace := ["internal/abi.NoEscape", "internal/bytealg.MakeNoZero"], unfollowed := true, recurses := true, named := ["internal/strconv.uint64pow10", "math/bits.deBruijn32tab", "math/bits.deBruijn64tab"], apart := false, laid := [("math/bits.deBruijn32tab", laid_math_bits_deBruijn32tab), ("math/bits.deBruijn64tab", laid_math_bits_deBruijn64tab), ("internal/strconv.uint64pow10", laid_internal_strconv_uint64pow10)] }
def CommandBatchesSaid : Prop := commandBatchesRow.holds Tryz.pinned (OpenSpec.ofChange commandBatchesSpec)

/-- ITS FALSE NEIGHBOUR: 'it returns false'. Refute it at one input. -/
def commandBatchesWrong : ChangeSpec := { name := "commandBatches", fn := fun _ => fun
  | [d1, d2] => { results := [.lit (.bool false)], args := [d1, d2] }
  | _ => none }
def CommandBatchesWrongFalsely : Prop := commandBatchesRow.holds Tryz.pinned (OpenSpec.ofChange commandBatchesWrong)

/- THE SECOND FORM. 'bulk': how many values and letters a reading holds, each counted each time it is reached (what is shared counts as often as it is met; a slice's spare places count too). A statement '..UptoSaid' is the law's where the arguments, and the package variables that the reading takes, are together of bulk at most 1048576: NARROWER than '..Said'. Prove '..Said' where nothing that the law and all that it calls make is longer than what came in: it says more and counts as full. Else prove '..UptoSaid'. A law counts once. -/
mutual
def uptoBulk {H : Type} : DataW H → Nat
  | .lit (.string bytes) => bytes.length + 1
  | .lit _ => 1
  | .nil => 1
  | .ptr d => uptoBulk d + 1
  | .slice elems spare => uptoBulkAll elems + uptoBulkAll spare + 1
  | .agg parts => uptoBulkAll parts + 1
  | .iface _ d => uptoBulk d + 1
  | .map entries => uptoBulkEntries entries + 1
  | .held _ => 1
def uptoBulkAll {H : Type} : List (DataW H) → Nat
  | [] => 0
  | d :: r => uptoBulk d + uptoBulkAll r
def uptoBulkEntries {H : Type} : List (Lit × DataW H) → Nat
  | [] => 0
  | x :: r => uptoBulkEntry x + uptoBulkEntries r
def uptoBulkEntry {H : Type} : Lit × DataW H → Nat
  | (.string bytes, d) => bytes.length + uptoBulk d + 1
  | (_, d) => uptoBulk d + 1
 end
def uptoSmall : (H : Type) → List (DataW H) → Bool := fun _ ds => decide (uptoBulkAll ds ≤ 1048576)
def OpenSpec.upto (s : _root_.Go.ChangeSpec) : _root_.Go.OpenSpec := { _root_.Go.OpenSpec.ofChange s with cond := some uptoSmall }

/-- 'decretallaw19.TcodecBytes', WHERE WHAT IT READS IS OF BULK AT MOST 1048576: true; the input reads as it did. -/
def tcodecBytesUptoRow : OpenClaim := { program := "ytmbgnaoilncbnaagreatdoor", sum := "8809e6d46f1385caf5c859c9e681b029084881df5801269dcac3980ad5b6842b", func := "decretal/decretallaw19.TcodecBytes", spec := "tcodecBytes", inPlace := ["internal/abi.NoEscape", "internal/bytealg.MakeNoZero"], unfollowed := true, recurses := true, named := ["internal/strconv.uint64pow10", "math/bits.deBruijn32tab", "math/bits.deBruijn64tab"], apart := false, laid := [("math/bits.deBruijn32tab", laid_math_bits_deBruijn32tab), ("math/bits.deBruijn64tab", laid_math_bits_deBruijn64tab), ("internal/strconv.uint64pow10", laid_internal_strconv_uint64pow10)], narrowed := true }
def TcodecBytesUptoSaid : Prop := tcodecBytesUptoRow.holds Tryz.pinned (OpenSpec.upto tcodecBytesSpec)

/-- 'decretallaw19.TcodecParses', WHERE WHAT IT READS IS OF BULK AT MOST 1048576: true; the input reads as it did. -/
def tcodecParsesUptoRow : OpenClaim := { program := "ytmbgnaoilncbnaagreatdoor", sum := "8809e6d46f1385caf5c859c9e681b029084881df5801269dcac3980ad5b6842b", func := "decretal/decretallaw19.TcodecParses", spec := "tcodecParses", inPlace := ["internal/abi.NoEscape", "internal/bytealg.MakeNoZero"], unfollowed := true, recurses := true, named := ["internal/strconv.uint64pow10", "math/bits.deBruijn32tab", "math/bits.deBruijn64tab"], apart := false, laid := [("math/bits.deBruijn32tab", laid_math_bits_deBruijn32tab), ("math/bits.deBruijn64tab", laid_math_bits_deBruijn64tab), ("internal/strconv.uint64pow10", laid_internal_strconv_uint64pow10)], narrowed := true }
def TcodecParsesUptoSaid : Prop := tcodecParsesUptoRow.holds Tryz.pinned (OpenSpec.upto tcodecParsesSpec)

/-- 'decretallaw19.TcodecBack', WHERE WHAT IT READS IS OF BULK AT MOST 1048576: true; the input reads as it did. -/
def tcodecBackUptoRow : OpenClaim := { program := "ytmbgnaoilncbnaagreatdoor", sum := "8809e6d46f1385caf5c859c9e681b029084881df5801269dcac3980ad5b6842b", func := "decretal/decretallaw19.TcodecBack", spec := "tcodecBack", inPlace := ["internal/abi.NoEscape", "internal/bytealg.MakeNoZero"], unfollowed := true, recurses := true, named := ["internal/strconv.uint64pow10", "math/bits.deBruijn32tab", "math/bits.deBruijn64tab"], apart := false, laid := [("math/bits.deBruijn32tab", laid_math_bits_deBruijn32tab), ("math/bits.deBruijn64tab", laid_math_bits_deBruijn64tab), ("internal/strconv.uint64pow10", laid_internal_strconv_uint64pow10)], narrowed := true }
def TcodecBackUptoSaid : Prop := tcodecBackUptoRow.holds Tryz.pinned (OpenSpec.upto tcodecBackSpec)

/-- 'decretallaw19.TcodecApart', WHERE WHAT IT READS IS OF BULK AT MOST 1048576: true; the input reads as it did. -/
def tcodecApartUptoRow : OpenClaim := { program := "ytmbgnaoilncbnaagreatdoor", sum := "8809e6d46f1385caf5c859c9e681b029084881df5801269dcac3980ad5b6842b", func := "decretal/decretallaw19.TcodecApart", spec := "tcodecApart", inPlace := ["internal/abi.NoEscape", "internal/bytealg.MakeNoZero"], unfollowed := true, recurses := true, named := ["internal/strconv.uint64pow10", "math/bits.deBruijn32tab", "math/bits.deBruijn64tab"], apart := false, laid := [("math/bits.deBruijn32tab", laid_math_bits_deBruijn32tab), ("math/bits.deBruijn64tab", laid_math_bits_deBruijn64tab), ("internal/strconv.uint64pow10", laid_internal_strconv_uint64pow10)], narrowed := true }
def TcodecApartUptoSaid : Prop := tcodecApartUptoRow.holds Tryz.pinned (OpenSpec.upto tcodecApartSpec)

/-- 'decretallaw27.CommandBytes', WHERE WHAT IT READS IS OF BULK AT MOST 1048576: true; the input reads as it did. -/
def commandBytesUptoRow : OpenClaim := { program := "ytmbgnaoilncbnaagreatdoor", sum := "8809e6d46f1385caf5c859c9e681b029084881df5801269dcac3980ad5b6842b", func := "decretal/decretallaw27.CommandBytes", spec := "commandBytes", inPlace := ["internal/abi.NoEscape", "internal/bytealg.MakeNoZero"], unfollowed := true, recurses := true, named := ["internal/strconv.uint64pow10", "math/bits.deBruijn32tab", "math/bits.deBruijn64tab"], apart := false, laid := [("math/bits.deBruijn32tab", laid_math_bits_deBruijn32tab), ("math/bits.deBruijn64tab", laid_math_bits_deBruijn64tab), ("internal/strconv.uint64pow10", laid_internal_strconv_uint64pow10)], narrowed := true }
def CommandBytesUptoSaid : Prop := commandBytesUptoRow.holds Tryz.pinned (OpenSpec.upto commandBytesSpec)

/-- 'decretallaw27.CommandOne', WHERE WHAT IT READS IS OF BULK AT MOST 1048576: true; the input reads as it did. -/
def commandOneUptoRow : OpenClaim := { program := "ytmbgnaoilncbnaagreatdoor", sum := "8809e6d46f1385caf5c859c9e681b029084881df5801269dcac3980ad5b6842b", func := "decretal/decretallaw27.CommandOne", spec := "commandOne", inPlace := ["internal/abi.NoEscape", "internal/bytealg.MakeNoZero"], unfollowed := true, recurses := true, named := ["internal/strconv.uint64pow10", "math/bits.deBruijn32tab", "math/bits.deBruijn64tab"], apart := false, laid := [("math/bits.deBruijn32tab", laid_math_bits_deBruijn32tab), ("math/bits.deBruijn64tab", laid_math_bits_deBruijn64tab), ("internal/strconv.uint64pow10", laid_internal_strconv_uint64pow10)], narrowed := true }
def CommandOneUptoSaid : Prop := commandOneUptoRow.holds Tryz.pinned (OpenSpec.upto commandOneSpec)

/-- 'decretallaw27.CommandBack', WHERE WHAT IT READS IS OF BULK AT MOST 1048576: true; the input reads as it did. -/
def commandBackUptoRow : OpenClaim := { program := "ytmbgnaoilncbnaagreatdoor", sum := "8809e6d46f1385caf5c859c9e681b029084881df5801269dcac3980ad5b6842b", func := "decretal/decretallaw27.CommandBack", spec := "commandBack", inPlace := ["internal/abi.NoEscape", "internal/bytealg.MakeNoZero"], unfollowed := true, recurses := true, named := ["internal/strconv.uint64pow10", "math/bits.deBruijn32tab", "math/bits.deBruijn64tab"], apart := false, laid := [("math/bits.deBruijn32tab", laid_math_bits_deBruijn32tab), ("math/bits.deBruijn64tab", laid_math_bits_deBruijn64tab), ("internal/strconv.uint64pow10", laid_internal_strconv_uint64pow10)], narrowed := true }
def CommandBackUptoSaid : Prop := commandBackUptoRow.holds Tryz.pinned (OpenSpec.upto commandBackSpec)

/-- 'decretallaw27.CommandBatches', WHERE WHAT IT READS IS OF BULK AT MOST 1048576: true; the input reads as it did. -/
def commandBatchesUptoRow : OpenClaim := { program := "ytmbgnaoilncbnaagreatdoor", sum := "8809e6d46f1385caf5c859c9e681b029084881df5801269dcac3980ad5b6842b", func := "decretal/decretallaw27.CommandBatches", spec := "commandBatches", inPlace := ["internal/abi.NoEscape", "internal/bytealg.MakeNoZero"], unfollowed := true, recurses := true, named := ["internal/strconv.uint64pow10", "math/bits.deBruijn32tab", "math/bits.deBruijn64tab"], apart := false, laid := [("math/bits.deBruijn32tab", laid_math_bits_deBruijn32tab), ("math/bits.deBruijn64tab", laid_math_bits_deBruijn64tab), ("internal/strconv.uint64pow10", laid_internal_strconv_uint64pow10)], narrowed := true }
def CommandBatchesUptoSaid : Prop := commandBatchesUptoRow.holds Tryz.pinned (OpenSpec.upto commandBatchesSpec)

end Rows
end Go.Proofs.YtmbgnaoilncbnaaGreatDoor
