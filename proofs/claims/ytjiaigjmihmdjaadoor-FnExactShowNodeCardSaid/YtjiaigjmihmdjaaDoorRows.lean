/-
  NARROWER THAN 'FOR EVERY INPUT', by the rows' own cells (each row's printed sentence says how): FnSig: laid · FnExactTakeAnswer: laid · FnExchange: laid · FnExactShowNode: laid · FnEntries: laid · FnExactGetEntries: laid · FnTokenCodec: laid · FnExactAnswerTo: laid.
  DERIVED. THE GIVEN ROWS OF THIS SEAT. 8 by the template 'for every input the law returns true; each argument reads behind the call as it read before'; 0 by the template 'total and deterministic' (their statements: YtjiaigjmihmdjaaDoorTotals.lean).
  GIVEN WITH THE SEED: the statements are not yours to turn. If you find one false, say at which input.
  Laid BY PROGRAM, IN A SANDBOX (cutbox-rows.mjs): the forced cells as the released guide's own fill.sh prints them over the translation 57663ffadf15243a… (all of the seat's roots in one cut). By AI agents, Wed Nov 11 2026. No macro, syntax, notation, axiom, sorry.
-/
import Derived.Test.YtjiaigjmihmdjaaDoorChecked
import GoSem.PinnedTables
import GoSem.Claim
import GoSem.ClaimJoined
import GoSem.ClaimMapViews
import Derived.JoinedTies
import Derived.KernelRfl
namespace Go.Proofs.YtjiaigjmihmdjaaDoor
/- THE CELL 'sum', in the pinned program and in every row, IS THE sha256 OF THE DUMP (.gsa) THAT YtjiaigjmihmdjaaDoorProg.lean LOADS. Nothing in Lean hashes anything: it is a label: what it is worth is what the hold of that sum in a sandbox is worth. -/
noncomputable def Tryd.pinned : Pinned := { name := "ytjiaigjmihmdjaadoor", sum := "57663ffadf15243af500330d244b6d80d4bc4445313a92064f73d6fd3cdda461", checked := Tryd.checked }
namespace Rows
def none {H : Type} : Left H := { results := [], args := [] }

/- WHAT THE LISTED PACKAGE-LEVEL VARIABLES READ AS WHEN THE CALL BEGINS. Each datum BY PROGRAM (the guide's laid-datum.mjs) off the statement by which the dump's own 'gosem.cut.vars' lays the variable. In a bare row this is a premise. The card (YtjiaigjmihmdjaaDoorCards.lean) ties it to the program's text. -/
def laid_loop_example_g00100_impl_sines {H : Type} : DataW H := .agg [.lit (.int .u32 3614090360), .lit (.int .u32 3905402710), .lit (.int .u32 606105819), .lit (.int .u32 3250441966), .lit (.int .u32 4118548399), .lit (.int .u32 1200080426), .lit (.int .u32 2821735955), .lit (.int .u32 4249261313), .lit (.int .u32 1770035416), .lit (.int .u32 2336552879), .lit (.int .u32 4294925233), .lit (.int .u32 2304563134), .lit (.int .u32 1804603682), .lit (.int .u32 4254626195), .lit (.int .u32 2792965006), .lit (.int .u32 1236535329), .lit (.int .u32 4129170786), .lit (.int .u32 3225465664), .lit (.int .u32 643717713), .lit (.int .u32 3921069994), .lit (.int .u32 3593408605), .lit (.int .u32 38016083), .lit (.int .u32 3634488961), .lit (.int .u32 3889429448), .lit (.int .u32 568446438), .lit (.int .u32 3275163606), .lit (.int .u32 4107603335), .lit (.int .u32 1163531501), .lit (.int .u32 2850285829), .lit (.int .u32 4243563512), .lit (.int .u32 1735328473), .lit (.int .u32 2368359562), .lit (.int .u32 4294588738), .lit (.int .u32 2272392833), .lit (.int .u32 1839030562), .lit (.int .u32 4259657740), .lit (.int .u32 2763975236), .lit (.int .u32 1272893353), .lit (.int .u32 4139469664), .lit (.int .u32 3200236656), .lit (.int .u32 681279174), .lit (.int .u32 3936430074), .lit (.int .u32 3572445317), .lit (.int .u32 76029189), .lit (.int .u32 3654602809), .lit (.int .u32 3873151461), .lit (.int .u32 530742520), .lit (.int .u32 3299628645), .lit (.int .u32 4096336452), .lit (.int .u32 1126891415), .lit (.int .u32 2878612391), .lit (.int .u32 4237533241), .lit (.int .u32 1700485571), .lit (.int .u32 2399980690), .lit (.int .u32 4293915773), .lit (.int .u32 2240044497), .lit (.int .u32 1873313359), .lit (.int .u32 4264355552), .lit (.int .u32 2734768916), .lit (.int .u32 1309151649), .lit (.int .u32 4149444226), .lit (.int .u32 3174756917), .lit (.int .u32 718787259), .lit (.int .u32 3951481745)]
def laid_loop_example_g00100_impl_turns {H : Type} : DataW H := .agg [.agg [.lit (.int .i64 7), .lit (.int .i64 12), .lit (.int .i64 17), .lit (.int .i64 22)], .agg [.lit (.int .i64 5), .lit (.int .i64 9), .lit (.int .i64 14), .lit (.int .i64 20)], .agg [.lit (.int .i64 4), .lit (.int .i64 11), .lit (.int .i64 16), .lit (.int .i64 23)], .agg [.lit (.int .i64 6), .lit (.int .i64 10), .lit (.int .i64 15), .lit (.int .i64 21)]]
def laid_math_bits_deBruijn32tab {H : Type} : DataW H := .agg [.lit (.int .u8 0), .lit (.int .u8 1), .lit (.int .u8 28), .lit (.int .u8 2), .lit (.int .u8 29), .lit (.int .u8 14), .lit (.int .u8 24), .lit (.int .u8 3), .lit (.int .u8 30), .lit (.int .u8 22), .lit (.int .u8 20), .lit (.int .u8 15), .lit (.int .u8 25), .lit (.int .u8 17), .lit (.int .u8 4), .lit (.int .u8 8), .lit (.int .u8 31), .lit (.int .u8 27), .lit (.int .u8 13), .lit (.int .u8 23), .lit (.int .u8 21), .lit (.int .u8 19), .lit (.int .u8 16), .lit (.int .u8 7), .lit (.int .u8 26), .lit (.int .u8 12), .lit (.int .u8 18), .lit (.int .u8 6), .lit (.int .u8 11), .lit (.int .u8 5), .lit (.int .u8 10), .lit (.int .u8 9)]
def laid_math_bits_deBruijn64tab {H : Type} : DataW H := .agg [.lit (.int .u8 0), .lit (.int .u8 1), .lit (.int .u8 56), .lit (.int .u8 2), .lit (.int .u8 57), .lit (.int .u8 49), .lit (.int .u8 28), .lit (.int .u8 3), .lit (.int .u8 61), .lit (.int .u8 58), .lit (.int .u8 42), .lit (.int .u8 50), .lit (.int .u8 38), .lit (.int .u8 29), .lit (.int .u8 17), .lit (.int .u8 4), .lit (.int .u8 62), .lit (.int .u8 47), .lit (.int .u8 59), .lit (.int .u8 36), .lit (.int .u8 45), .lit (.int .u8 43), .lit (.int .u8 51), .lit (.int .u8 22), .lit (.int .u8 53), .lit (.int .u8 39), .lit (.int .u8 33), .lit (.int .u8 30), .lit (.int .u8 24), .lit (.int .u8 18), .lit (.int .u8 12), .lit (.int .u8 5), .lit (.int .u8 63), .lit (.int .u8 55), .lit (.int .u8 48), .lit (.int .u8 27), .lit (.int .u8 60), .lit (.int .u8 41), .lit (.int .u8 37), .lit (.int .u8 16), .lit (.int .u8 46), .lit (.int .u8 35), .lit (.int .u8 44), .lit (.int .u8 21), .lit (.int .u8 52), .lit (.int .u8 32), .lit (.int .u8 23), .lit (.int .u8 11), .lit (.int .u8 54), .lit (.int .u8 26), .lit (.int .u8 40), .lit (.int .u8 15), .lit (.int .u8 34), .lit (.int .u8 20), .lit (.int .u8 31), .lit (.int .u8 10), .lit (.int .u8 25), .lit (.int .u8 14), .lit (.int .u8 19), .lit (.int .u8 9), .lit (.int .u8 13), .lit (.int .u8 8), .lit (.int .u8 7), .lit (.int .u8 6)]
def laid_internal_strconv_uint64pow10 {H : Type} : DataW H := .agg [.lit (.int .u64 1), .lit (.int .u64 10), .lit (.int .u64 100), .lit (.int .u64 1000), .lit (.int .u64 10000), .lit (.int .u64 100000), .lit (.int .u64 1000000), .lit (.int .u64 10000000), .lit (.int .u64 100000000), .lit (.int .u64 1000000000), .lit (.int .u64 10000000000), .lit (.int .u64 100000000000), .lit (.int .u64 1000000000000), .lit (.int .u64 10000000000000), .lit (.int .u64 100000000000000), .lit (.int .u64 1000000000000000), .lit (.int .u64 10000000000000000), .lit (.int .u64 100000000000000000), .lit (.int .u64 1000000000000000000), .lit (.int .u64 10000000000000000000)]
def laid_unicode_utf8_acceptRanges {H : Type} : DataW H := .agg [.agg [.lit (.int .u8 128), .lit (.int .u8 191)], .agg [.lit (.int .u8 160), .lit (.int .u8 191)], .agg [.lit (.int .u8 128), .lit (.int .u8 159)], .agg [.lit (.int .u8 144), .lit (.int .u8 191)], .agg [.lit (.int .u8 128), .lit (.int .u8 143)], .agg [.lit (.int .u8 0), .lit (.int .u8 0)], .agg [.lit (.int .u8 0), .lit (.int .u8 0)], .agg [.lit (.int .u8 0), .lit (.int .u8 0)], .agg [.lit (.int .u8 0), .lit (.int .u8 0)], .agg [.lit (.int .u8 0), .lit (.int .u8 0)], .agg [.lit (.int .u8 0), .lit (.int .u8 0)], .agg [.lit (.int .u8 0), .lit (.int .u8 0)], .agg [.lit (.int .u8 0), .lit (.int .u8 0)], .agg [.lit (.int .u8 0), .lit (.int .u8 0)], .agg [.lit (.int .u8 0), .lit (.int .u8 0)], .agg [.lit (.int .u8 0), .lit (.int .u8 0)]]
/-- One of Go's own tables, pinned by name: the form's constant. -/
def laid_unicode_utf8_first : DataW Unit := Go.Pinned.utf8First

/-- 'laws.FnSig': WHATEVER THE INPUT: true; the input reads as it did. -/
def fnSigSpec : ChangeSpec := { name := "fnSig", vars := ["loop.example/g00100/impl.sines", "loop.example/g00100/impl.turns"], fn := fun _ => fun
  | [d, g1, g2] => { results := [.lit (.bool true)], args := [d], vars := [g1, g2] }
  | _ => none }
def fnSigRow : OpenClaim := { program := "ytjiaigjmihmdjaadoor", sum := "57663ffadf15243af500330d244b6d80d4bc4445313a92064f73d6fd3cdda461", func := "loop.example/g00100/laws.FnSig", spec := "fnSig", inPlace := ["internal/abi.NoEscape"], unfollowed := true, recurses := true, named := ["loop.example/g00100/impl.sines", "loop.example/g00100/impl.turns"], apart := false, laid := [("loop.example/g00100/impl.sines", laid_loop_example_g00100_impl_sines), ("loop.example/g00100/impl.turns", laid_loop_example_g00100_impl_turns)] }
def FnSigSaid : Prop := fnSigRow.holds Tryd.pinned (OpenSpec.ofChange fnSigSpec)

/-- ITS FALSE NEIGHBOUR: 'it returns false'. Refute it at one input. -/
def fnSigWrong : ChangeSpec := { name := "fnSig", vars := ["loop.example/g00100/impl.sines", "loop.example/g00100/impl.turns"], fn := fun _ => fun
  | [d, g1, g2] => { results := [.lit (.bool false)], args := [d], vars := [g1, g2] }
  | _ => none }
def FnSigWrongFalsely : Prop := fnSigRow.holds Tryd.pinned (OpenSpec.ofChange fnSigWrong)

/-- 'laws.FnExactTakeAnswer': WHATEVER THE INPUT: true; the input reads as it did. -/
def fnExactTakeAnswerSpec : ChangeSpec := { name := "fnExactTakeAnswer", vars := ["loop.example/g00100/impl.sines", "loop.example/g00100/impl.turns"], fn := fun _ => fun
  | [d1, d2, g1, g2] => { results := [.lit (.bool true)], args := [d1, d2], vars := [g1, g2] }
  | _ => none }
def fnExactTakeAnswerRow : OpenClaim := { program := "ytjiaigjmihmdjaadoor", sum := "57663ffadf15243af500330d244b6d80d4bc4445313a92064f73d6fd3cdda461", func := "loop.example/g00100/laws.FnExactTakeAnswer", spec := "fnExactTakeAnswer", inPlace := ["internal/abi.NoEscape"], unfollowed := true, recurses := true, named := ["loop.example/g00100/impl.sines", "loop.example/g00100/impl.turns"], apart := false, laid := [("loop.example/g00100/impl.sines", laid_loop_example_g00100_impl_sines), ("loop.example/g00100/impl.turns", laid_loop_example_g00100_impl_turns)] }
def FnExactTakeAnswerSaid : Prop := fnExactTakeAnswerRow.holds Tryd.pinned (OpenSpec.ofChange fnExactTakeAnswerSpec)

/-- ITS FALSE NEIGHBOUR: 'it returns false'. Refute it at one input. -/
def fnExactTakeAnswerWrong : ChangeSpec := { name := "fnExactTakeAnswer", vars := ["loop.example/g00100/impl.sines", "loop.example/g00100/impl.turns"], fn := fun _ => fun
  | [d1, d2, g1, g2] => { results := [.lit (.bool false)], args := [d1, d2], vars := [g1, g2] }
  | _ => none }
def FnExactTakeAnswerWrongFalsely : Prop := fnExactTakeAnswerRow.holds Tryd.pinned (OpenSpec.ofChange fnExactTakeAnswerWrong)

/-- 'laws.FnExchange': WHATEVER THE INPUT: true; the input reads as it did. -/
def fnExchangeSpec : ChangeSpec := { name := "fnExchange", vars := ["loop.example/g00100/impl.sines", "loop.example/g00100/impl.turns"], fn := fun _ => fun
  | [d, g1, g2] => { results := [.lit (.bool true)], args := [d], vars := [g1, g2] }
  | _ => none }
def fnExchangeRow : OpenClaim := { program := "ytjiaigjmihmdjaadoor", sum := "57663ffadf15243af500330d244b6d80d4bc4445313a92064f73d6fd3cdda461", func := "loop.example/g00100/laws.FnExchange", spec := "fnExchange", inPlace := ["internal/abi.NoEscape"], unfollowed := true, recurses := true, named := ["loop.example/g00100/impl.sines", "loop.example/g00100/impl.turns"], apart := false, laid := [("loop.example/g00100/impl.sines", laid_loop_example_g00100_impl_sines), ("loop.example/g00100/impl.turns", laid_loop_example_g00100_impl_turns)] }
def FnExchangeSaid : Prop := fnExchangeRow.holds Tryd.pinned (OpenSpec.ofChange fnExchangeSpec)

/-- ITS FALSE NEIGHBOUR: 'it returns false'. Refute it at one input. -/
def fnExchangeWrong : ChangeSpec := { name := "fnExchange", vars := ["loop.example/g00100/impl.sines", "loop.example/g00100/impl.turns"], fn := fun _ => fun
  | [d, g1, g2] => { results := [.lit (.bool false)], args := [d], vars := [g1, g2] }
  | _ => none }
def FnExchangeWrongFalsely : Prop := fnExchangeRow.holds Tryd.pinned (OpenSpec.ofChange fnExchangeWrong)

/-- 'laws.FnExactShowNode': WHATEVER THE INPUT: true; the input reads as it did. -/
def fnExactShowNodeSpec : ChangeSpec := { name := "fnExactShowNode", fn := fun _ => fun
  | [d] => { results := [.lit (.bool true)], args := [d] }
  | _ => none }
def fnExactShowNodeRow : OpenClaim := { program := "ytjiaigjmihmdjaadoor", sum := "57663ffadf15243af500330d244b6d80d4bc4445313a92064f73d6fd3cdda461", func := "loop.example/g00100/laws.FnExactShowNode", spec := "fnExactShowNode", inPlace := ["internal/bytealg.CountString", "internal/bytealg.IndexByteString", "internal/bytealg.IndexString", "internal/abi.NoEscape", "internal/bytealg.MakeNoZero"], named := ["unicode/utf8.first", "unicode/utf8.acceptRanges", "internal/bytealg.MaxLen", "internal/strconv.uint64pow10", "math/bits.deBruijn32tab", "math/bits.deBruijn64tab"], apart := false, laid := [("math/bits.deBruijn32tab", laid_math_bits_deBruijn32tab), ("math/bits.deBruijn64tab", laid_math_bits_deBruijn64tab), ("internal/strconv.uint64pow10", laid_internal_strconv_uint64pow10), ("unicode/utf8.acceptRanges", laid_unicode_utf8_acceptRanges), ("unicode/utf8.first", laid_unicode_utf8_first)] }
def FnExactShowNodeSaid : Prop := fnExactShowNodeRow.holds Tryd.pinned (OpenSpec.ofChange fnExactShowNodeSpec)

/-- ITS FALSE NEIGHBOUR: 'it returns false'. Refute it at one input. -/
def fnExactShowNodeWrong : ChangeSpec := { name := "fnExactShowNode", fn := fun _ => fun
  | [d] => { results := [.lit (.bool false)], args := [d] }
  | _ => none }
def FnExactShowNodeWrongFalsely : Prop := fnExactShowNodeRow.holds Tryd.pinned (OpenSpec.ofChange fnExactShowNodeWrong)

/-- 'laws.FnEntries': WHATEVER THE INPUT: true; the input reads as it did. -/
def fnEntriesSpec : ChangeSpec := { name := "fnEntries", fn := fun _ => fun
  | [d] => { results := [.lit (.bool true)], args := [d] }
  | _ => none }
def fnEntriesRow : OpenClaim := { program := "ytjiaigjmihmdjaadoor", sum := "57663ffadf15243af500330d244b6d80d4bc4445313a92064f73d6fd3cdda461", func := "loop.example/g00100/laws.FnEntries", spec := "fnEntries", inPlace := ["internal/bytealg.CountString", "internal/bytealg.IndexByteString", "internal/bytealg.IndexString", "internal/abi.NoEscape"], named := ["unicode/utf8.first", "unicode/utf8.acceptRanges", "internal/bytealg.MaxLen"], apart := false, laid := [("unicode/utf8.acceptRanges", laid_unicode_utf8_acceptRanges), ("unicode/utf8.first", laid_unicode_utf8_first)] }
def FnEntriesSaid : Prop := fnEntriesRow.holds Tryd.pinned (OpenSpec.ofChange fnEntriesSpec)

/-- ITS FALSE NEIGHBOUR: 'it returns false'. Refute it at one input. -/
def fnEntriesWrong : ChangeSpec := { name := "fnEntries", fn := fun _ => fun
  | [d] => { results := [.lit (.bool false)], args := [d] }
  | _ => none }
def FnEntriesWrongFalsely : Prop := fnEntriesRow.holds Tryd.pinned (OpenSpec.ofChange fnEntriesWrong)

/-- 'laws.FnExactGetEntries': WHATEVER THE INPUT: true; the input reads as it did. -/
def fnExactGetEntriesSpec : ChangeSpec := { name := "fnExactGetEntries", fn := fun _ => fun
  | [d] => { results := [.lit (.bool true)], args := [d] }
  | _ => none }
def fnExactGetEntriesRow : OpenClaim := { program := "ytjiaigjmihmdjaadoor", sum := "57663ffadf15243af500330d244b6d80d4bc4445313a92064f73d6fd3cdda461", func := "loop.example/g00100/laws.FnExactGetEntries", spec := "fnExactGetEntries", inPlace := ["internal/bytealg.CountString", "internal/bytealg.IndexByteString", "internal/bytealg.IndexString", "internal/abi.NoEscape"], named := ["unicode/utf8.first", "unicode/utf8.acceptRanges", "internal/bytealg.MaxLen"], apart := false, laid := [("unicode/utf8.acceptRanges", laid_unicode_utf8_acceptRanges), ("unicode/utf8.first", laid_unicode_utf8_first)] }
def FnExactGetEntriesSaid : Prop := fnExactGetEntriesRow.holds Tryd.pinned (OpenSpec.ofChange fnExactGetEntriesSpec)

/-- ITS FALSE NEIGHBOUR: 'it returns false'. Refute it at one input. -/
def fnExactGetEntriesWrong : ChangeSpec := { name := "fnExactGetEntries", fn := fun _ => fun
  | [d] => { results := [.lit (.bool false)], args := [d] }
  | _ => none }
def FnExactGetEntriesWrongFalsely : Prop := fnExactGetEntriesRow.holds Tryd.pinned (OpenSpec.ofChange fnExactGetEntriesWrong)

/-- 'laws.FnTokenCodec': WHATEVER THE INPUT: true; the input reads as it did. -/
def fnTokenCodecSpec : ChangeSpec := { name := "fnTokenCodec", vars := ["loop.example/g00100/impl.sines", "loop.example/g00100/impl.turns"], fn := fun _ => fun
  | [d, g1, g2] => { results := [.lit (.bool true)], args := [d], vars := [g1, g2] }
  | _ => none }
def fnTokenCodecRow : OpenClaim := { program := "ytjiaigjmihmdjaadoor", sum := "57663ffadf15243af500330d244b6d80d4bc4445313a92064f73d6fd3cdda461", func := "loop.example/g00100/laws.FnTokenCodec", spec := "fnTokenCodec", inPlace := ["internal/abi.NoEscape"], unfollowed := true, recurses := true, named := ["loop.example/g00100/impl.sines", "loop.example/g00100/impl.turns"], apart := false, laid := [("loop.example/g00100/impl.sines", laid_loop_example_g00100_impl_sines), ("loop.example/g00100/impl.turns", laid_loop_example_g00100_impl_turns)] }
def FnTokenCodecSaid : Prop := fnTokenCodecRow.holds Tryd.pinned (OpenSpec.ofChange fnTokenCodecSpec)

/-- ITS FALSE NEIGHBOUR: 'it returns false'. Refute it at one input. -/
def fnTokenCodecWrong : ChangeSpec := { name := "fnTokenCodec", vars := ["loop.example/g00100/impl.sines", "loop.example/g00100/impl.turns"], fn := fun _ => fun
  | [d, g1, g2] => { results := [.lit (.bool false)], args := [d], vars := [g1, g2] }
  | _ => none }
def FnTokenCodecWrongFalsely : Prop := fnTokenCodecRow.holds Tryd.pinned (OpenSpec.ofChange fnTokenCodecWrong)

/-- 'laws.FnExactAnswerTo': WHATEVER THE INPUT: true; the input reads as it did. -/
def fnExactAnswerToSpec : ChangeSpec := { name := "fnExactAnswerTo", vars := ["loop.example/g00100/impl.sines", "loop.example/g00100/impl.turns"], fn := fun _ => fun
  | [d1, d2, d3, g1, g2] => { results := [.lit (.bool true)], args := [d1, d2, d3], vars := [g1, g2] }
  | _ => none }
def fnExactAnswerToRow : OpenClaim := { program := "ytjiaigjmihmdjaadoor", sum := "57663ffadf15243af500330d244b6d80d4bc4445313a92064f73d6fd3cdda461", func := "loop.example/g00100/laws.FnExactAnswerTo", spec := "fnExactAnswerTo", inPlace := ["internal/abi.NoEscape"], unfollowed := true, recurses := true, named := ["loop.example/g00100/impl.sines", "loop.example/g00100/impl.turns"], apart := false, laid := [("loop.example/g00100/impl.sines", laid_loop_example_g00100_impl_sines), ("loop.example/g00100/impl.turns", laid_loop_example_g00100_impl_turns)] }
def FnExactAnswerToSaid : Prop := fnExactAnswerToRow.holds Tryd.pinned (OpenSpec.ofChange fnExactAnswerToSpec)

/-- ITS FALSE NEIGHBOUR: 'it returns false'. Refute it at one input. -/
def fnExactAnswerToWrong : ChangeSpec := { name := "fnExactAnswerTo", vars := ["loop.example/g00100/impl.sines", "loop.example/g00100/impl.turns"], fn := fun _ => fun
  | [d1, d2, d3, g1, g2] => { results := [.lit (.bool false)], args := [d1, d2, d3], vars := [g1, g2] }
  | _ => none }
def FnExactAnswerToWrongFalsely : Prop := fnExactAnswerToRow.holds Tryd.pinned (OpenSpec.ofChange fnExactAnswerToWrong)

/- THE SECOND FORM. 'bulk': how many values and letters a reading holds, each counted each time it is reached (what is shared counts as often as it is met; a slice's spare places count too). A statement '..UptoSaid' is the law's where the arguments, and the package variables that the reading takes, are together of bulk at most 1048576: NARROWER than '..Said'. Prove '..Said' where nothing that the law and all that it calls make is longer than what came in: it says more and counts as full. Else prove '..UptoSaid'. A law counts once. -/
mutual
def uptoBulk {H : Type} : DataW H → Nat
  | .lit (.string bytes) => bytes.length + 1
  | .lit _ => 1
  | .nil => 1
  | .ptr d => uptoBulk d + 1
  | .slice elems spare => uptoBulkAll elems + uptoBulkAll spare + 1
  | .agg parts => uptoBulkAll parts + 1
  | .iface _ d => uptoBulk d + 1
  | .map entries => uptoBulkEntries entries + 1
  | .held _ => 1
def uptoBulkAll {H : Type} : List (DataW H) → Nat
  | [] => 0
  | d :: r => uptoBulk d + uptoBulkAll r
def uptoBulkEntries {H : Type} : List (Lit × DataW H) → Nat
  | [] => 0
  | x :: r => uptoBulkEntry x + uptoBulkEntries r
def uptoBulkEntry {H : Type} : Lit × DataW H → Nat
  | (.string bytes, d) => bytes.length + uptoBulk d + 1
  | (_, d) => uptoBulk d + 1
 end
def uptoSmall : (H : Type) → List (DataW H) → Bool := fun _ ds => decide (uptoBulkAll ds ≤ 1048576)
def OpenSpec.upto (s : _root_.Go.ChangeSpec) : _root_.Go.OpenSpec := { _root_.Go.OpenSpec.ofChange s with cond := some uptoSmall }

/-- 'laws.FnSig', WHERE WHAT IT READS IS OF BULK AT MOST 1048576: true; the input reads as it did. -/
def fnSigUptoRow : OpenClaim := { program := "ytjiaigjmihmdjaadoor", sum := "57663ffadf15243af500330d244b6d80d4bc4445313a92064f73d6fd3cdda461", func := "loop.example/g00100/laws.FnSig", spec := "fnSig", inPlace := ["internal/abi.NoEscape"], unfollowed := true, recurses := true, named := ["loop.example/g00100/impl.sines", "loop.example/g00100/impl.turns"], apart := false, laid := [("loop.example/g00100/impl.sines", laid_loop_example_g00100_impl_sines), ("loop.example/g00100/impl.turns", laid_loop_example_g00100_impl_turns)], narrowed := true }
def FnSigUptoSaid : Prop := fnSigUptoRow.holds Tryd.pinned (OpenSpec.upto fnSigSpec)

/-- 'laws.FnExactTakeAnswer', WHERE WHAT IT READS IS OF BULK AT MOST 1048576: true; the input reads as it did. -/
def fnExactTakeAnswerUptoRow : OpenClaim := { program := "ytjiaigjmihmdjaadoor", sum := "57663ffadf15243af500330d244b6d80d4bc4445313a92064f73d6fd3cdda461", func := "loop.example/g00100/laws.FnExactTakeAnswer", spec := "fnExactTakeAnswer", inPlace := ["internal/abi.NoEscape"], unfollowed := true, recurses := true, named := ["loop.example/g00100/impl.sines", "loop.example/g00100/impl.turns"], apart := false, laid := [("loop.example/g00100/impl.sines", laid_loop_example_g00100_impl_sines), ("loop.example/g00100/impl.turns", laid_loop_example_g00100_impl_turns)], narrowed := true }
def FnExactTakeAnswerUptoSaid : Prop := fnExactTakeAnswerUptoRow.holds Tryd.pinned (OpenSpec.upto fnExactTakeAnswerSpec)

/-- 'laws.FnExchange', WHERE WHAT IT READS IS OF BULK AT MOST 1048576: true; the input reads as it did. -/
def fnExchangeUptoRow : OpenClaim := { program := "ytjiaigjmihmdjaadoor", sum := "57663ffadf15243af500330d244b6d80d4bc4445313a92064f73d6fd3cdda461", func := "loop.example/g00100/laws.FnExchange", spec := "fnExchange", inPlace := ["internal/abi.NoEscape"], unfollowed := true, recurses := true, named := ["loop.example/g00100/impl.sines", "loop.example/g00100/impl.turns"], apart := false, laid := [("loop.example/g00100/impl.sines", laid_loop_example_g00100_impl_sines), ("loop.example/g00100/impl.turns", laid_loop_example_g00100_impl_turns)], narrowed := true }
def FnExchangeUptoSaid : Prop := fnExchangeUptoRow.holds Tryd.pinned (OpenSpec.upto fnExchangeSpec)

/-- 'laws.FnExactShowNode', WHERE WHAT IT READS IS OF BULK AT MOST 1048576: true; the input reads as it did. -/
def fnExactShowNodeUptoRow : OpenClaim := { program := "ytjiaigjmihmdjaadoor", sum := "57663ffadf15243af500330d244b6d80d4bc4445313a92064f73d6fd3cdda461", func := "loop.example/g00100/laws.FnExactShowNode", spec := "fnExactShowNode", inPlace := ["internal/bytealg.CountString", "internal/bytealg.IndexByteString", "internal/bytealg.IndexString", "internal/abi.NoEscape", "internal/bytealg.MakeNoZero"], named := ["unicode/utf8.first", "unicode/utf8.acceptRanges", "internal/bytealg.MaxLen", "internal/strconv.uint64pow10", "math/bits.deBruijn32tab", "math/bits.deBruijn64tab"], apart := false, laid := [("math/bits.deBruijn32tab", laid_math_bits_deBruijn32tab), ("math/bits.deBruijn64tab", laid_math_bits_deBruijn64tab), ("internal/strconv.uint64pow10", laid_internal_strconv_uint64pow10), ("unicode/utf8.acceptRanges", laid_unicode_utf8_acceptRanges), ("unicode/utf8.first", laid_unicode_utf8_first)], narrowed := true }
def FnExactShowNodeUptoSaid : Prop := fnExactShowNodeUptoRow.holds Tryd.pinned (OpenSpec.upto fnExactShowNodeSpec)

/-- 'laws.FnEntries', WHERE WHAT IT READS IS OF BULK AT MOST 1048576: true; the input reads as it did. -/
def fnEntriesUptoRow : OpenClaim := { program := "ytjiaigjmihmdjaadoor", sum := "57663ffadf15243af500330d244b6d80d4bc4445313a92064f73d6fd3cdda461", func := "loop.example/g00100/laws.FnEntries", spec := "fnEntries", inPlace := ["internal/bytealg.CountString", "internal/bytealg.IndexByteString", "internal/bytealg.IndexString", "internal/abi.NoEscape"], named := ["unicode/utf8.first", "unicode/utf8.acceptRanges", "internal/bytealg.MaxLen"], apart := false, laid := [("unicode/utf8.acceptRanges", laid_unicode_utf8_acceptRanges), ("unicode/utf8.first", laid_unicode_utf8_first)], narrowed := true }
def FnEntriesUptoSaid : Prop := fnEntriesUptoRow.holds Tryd.pinned (OpenSpec.upto fnEntriesSpec)

/-- 'laws.FnExactGetEntries', WHERE WHAT IT READS IS OF BULK AT MOST 1048576: true; the input reads as it did. -/
def fnExactGetEntriesUptoRow : OpenClaim := { program := "ytjiaigjmihmdjaadoor", sum := "57663ffadf15243af500330d244b6d80d4bc4445313a92064f73d6fd3cdda461", func := "loop.example/g00100/laws.FnExactGetEntries", spec := "fnExactGetEntries", inPlace := ["internal/bytealg.CountString", "internal/bytealg.IndexByteString", "internal/bytealg.IndexString", "internal/abi.NoEscape"], named := ["unicode/utf8.first", "unicode/utf8.acceptRanges", "internal/bytealg.MaxLen"], apart := false, laid := [("unicode/utf8.acceptRanges", laid_unicode_utf8_acceptRanges), ("unicode/utf8.first", laid_unicode_utf8_first)], narrowed := true }
def FnExactGetEntriesUptoSaid : Prop := fnExactGetEntriesUptoRow.holds Tryd.pinned (OpenSpec.upto fnExactGetEntriesSpec)

/-- 'laws.FnTokenCodec', WHERE WHAT IT READS IS OF BULK AT MOST 1048576: true; the input reads as it did. -/
def fnTokenCodecUptoRow : OpenClaim := { program := "ytjiaigjmihmdjaadoor", sum := "57663ffadf15243af500330d244b6d80d4bc4445313a92064f73d6fd3cdda461", func := "loop.example/g00100/laws.FnTokenCodec", spec := "fnTokenCodec", inPlace := ["internal/abi.NoEscape"], unfollowed := true, recurses := true, named := ["loop.example/g00100/impl.sines", "loop.example/g00100/impl.turns"], apart := false, laid := [("loop.example/g00100/impl.sines", laid_loop_example_g00100_impl_sines), ("loop.example/g00100/impl.turns", laid_loop_example_g00100_impl_turns)], narrowed := true }
def FnTokenCodecUptoSaid : Prop := fnTokenCodecUptoRow.holds Tryd.pinned (OpenSpec.upto fnTokenCodecSpec)

/-- 'laws.FnExactAnswerTo', WHERE WHAT IT READS IS OF BULK AT MOST 1048576: true; the input reads as it did. -/
def fnExactAnswerToUptoRow : OpenClaim := { program := "ytjiaigjmihmdjaadoor", sum := "57663ffadf15243af500330d244b6d80d4bc4445313a92064f73d6fd3cdda461", func := "loop.example/g00100/laws.FnExactAnswerTo", spec := "fnExactAnswerTo", inPlace := ["internal/abi.NoEscape"], unfollowed := true, recurses := true, named := ["loop.example/g00100/impl.sines", "loop.example/g00100/impl.turns"], apart := false, laid := [("loop.example/g00100/impl.sines", laid_loop_example_g00100_impl_sines), ("loop.example/g00100/impl.turns", laid_loop_example_g00100_impl_turns)], narrowed := true }
def FnExactAnswerToUptoSaid : Prop := fnExactAnswerToUptoRow.holds Tryd.pinned (OpenSpec.upto fnExactAnswerToSpec)

end Rows
end Go.Proofs.YtjiaigjmihmdjaaDoor
