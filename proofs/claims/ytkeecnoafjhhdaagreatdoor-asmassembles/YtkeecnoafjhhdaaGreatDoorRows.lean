/-
  NARROWER THAN 'FOR EVERY INPUT', by the rows' own cells (each row's printed sentence says how): AsmAssembles: laid · AsmTexts: laid · AsmDecodes: laid · AsmIgnores: laid · AsmSymbols: laid · AsmKnown: laid · AsmReaches: laid · AsmOrders: laid · AsmRefers: laid.
  DERIVED. THE GIVEN ROWS OF THIS SEAT. 9 by the template 'for every input the law returns true; each argument reads behind the call as it read before'; 0 by the template 'total and deterministic' (their statements: YtkeecnoafjhhdaaGreatDoorTotals.lean).
  GIVEN WITH THE SEED: the statements are not yours to turn. If you find one false, say at which input.
  Laid BY PROGRAM, IN A SANDBOX (cutbox-rows.mjs): the forced cells as the released guide's own fill.sh prints them over the translation 8b2161d98bf47774… (all of the seat's roots in one cut). By AI agents, Wed Nov 11 2026. No macro, syntax, notation, axiom, sorry.
-/
import Derived.Test.YtkeecnoafjhhdaaGreatDoorChecked
import GoSem.Claim
import GoSem.ClaimJoined
import GoSem.ClaimMapViews
import Derived.JoinedTies
import Derived.KernelRfl
namespace Go.Proofs.YtkeecnoafjhhdaaGreatDoor
/- THE CELL 'sum', in the pinned program and in every row, IS THE sha256 OF THE DUMP (.gsa) THAT YtkeecnoafjhhdaaGreatDoorProg.lean LOADS. Nothing in Lean hashes anything: it is a label: what it is worth is what the hold of that sum in a sandbox is worth. -/
noncomputable def Tryz.pinned : Pinned := { name := "ytkeecnoafjhhdaagreatdoor", sum := "8b2161d98bf4777402370a577a8e546c1e1576a743e47878aaec6c698e939ba2", checked := Tryz.checked }
namespace Rows
def none {H : Type} : Left H := { results := [], args := [] }

/- WHAT THE LISTED PACKAGE-LEVEL VARIABLES READ AS WHEN THE CALL BEGINS. Each datum BY PROGRAM (the guide's laid-datum.mjs) off the statement by which the dump's own 'gosem.cut.vars' lays the variable. In a bare row this is a premise. The card (YtkeecnoafjhhdaaGreatDoorCards.lean) ties it to the program's text. -/
def laid_math_bits_deBruijn32tab {H : Type} : DataW H := .agg [.lit (.int .u8 0), .lit (.int .u8 1), .lit (.int .u8 28), .lit (.int .u8 2), .lit (.int .u8 29), .lit (.int .u8 14), .lit (.int .u8 24), .lit (.int .u8 3), .lit (.int .u8 30), .lit (.int .u8 22), .lit (.int .u8 20), .lit (.int .u8 15), .lit (.int .u8 25), .lit (.int .u8 17), .lit (.int .u8 4), .lit (.int .u8 8), .lit (.int .u8 31), .lit (.int .u8 27), .lit (.int .u8 13), .lit (.int .u8 23), .lit (.int .u8 21), .lit (.int .u8 19), .lit (.int .u8 16), .lit (.int .u8 7), .lit (.int .u8 26), .lit (.int .u8 12), .lit (.int .u8 18), .lit (.int .u8 6), .lit (.int .u8 11), .lit (.int .u8 5), .lit (.int .u8 10), .lit (.int .u8 9)]
def laid_math_bits_deBruijn64tab {H : Type} : DataW H := .agg [.lit (.int .u8 0), .lit (.int .u8 1), .lit (.int .u8 56), .lit (.int .u8 2), .lit (.int .u8 57), .lit (.int .u8 49), .lit (.int .u8 28), .lit (.int .u8 3), .lit (.int .u8 61), .lit (.int .u8 58), .lit (.int .u8 42), .lit (.int .u8 50), .lit (.int .u8 38), .lit (.int .u8 29), .lit (.int .u8 17), .lit (.int .u8 4), .lit (.int .u8 62), .lit (.int .u8 47), .lit (.int .u8 59), .lit (.int .u8 36), .lit (.int .u8 45), .lit (.int .u8 43), .lit (.int .u8 51), .lit (.int .u8 22), .lit (.int .u8 53), .lit (.int .u8 39), .lit (.int .u8 33), .lit (.int .u8 30), .lit (.int .u8 24), .lit (.int .u8 18), .lit (.int .u8 12), .lit (.int .u8 5), .lit (.int .u8 63), .lit (.int .u8 55), .lit (.int .u8 48), .lit (.int .u8 27), .lit (.int .u8 60), .lit (.int .u8 41), .lit (.int .u8 37), .lit (.int .u8 16), .lit (.int .u8 46), .lit (.int .u8 35), .lit (.int .u8 44), .lit (.int .u8 21), .lit (.int .u8 52), .lit (.int .u8 32), .lit (.int .u8 23), .lit (.int .u8 11), .lit (.int .u8 54), .lit (.int .u8 26), .lit (.int .u8 40), .lit (.int .u8 15), .lit (.int .u8 34), .lit (.int .u8 20), .lit (.int .u8 31), .lit (.int .u8 10), .lit (.int .u8 25), .lit (.int .u8 14), .lit (.int .u8 19), .lit (.int .u8 9), .lit (.int .u8 13), .lit (.int .u8 8), .lit (.int .u8 7), .lit (.int .u8 6)]
def laid_internal_strconv_uint64pow10 {H : Type} : DataW H := .agg [.lit (.int .u64 1), .lit (.int .u64 10), .lit (.int .u64 100), .lit (.int .u64 1000), .lit (.int .u64 10000), .lit (.int .u64 100000), .lit (.int .u64 1000000), .lit (.int .u64 10000000), .lit (.int .u64 100000000), .lit (.int .u64 1000000000), .lit (.int .u64 10000000000), .lit (.int .u64 100000000000), .lit (.int .u64 1000000000000), .lit (.int .u64 10000000000000), .lit (.int .u64 100000000000000), .lit (.int .u64 1000000000000000), .lit (.int .u64 10000000000000000), .lit (.int .u64 100000000000000000), .lit (.int .u64 1000000000000000000), .lit (.int .u64 10000000000000000000)]

/-- 'perilunelaw10.AsmAssembles': WHATEVER THE INPUT: true; the input reads as it did. -/
def asmAssemblesSpec : ChangeSpec := { name := "asmAssembles", fn := fun _ => fun
  | [d] => { results := [.lit (.bool true)], args := [d] }
  | _ => none }
def asmAssemblesRow : OpenClaim := { program := "ytkeecnoafjhhdaagreatdoor", sum := "8b2161d98bf4777402370a577a8e546c1e1576a743e47878aaec6c698e939ba2", func := "perilune/perilunelaw10.AsmAssembles", spec := "asmAssembles", inPlace := ["internal/bytealg.IndexByteString", "internal/bytealg.IndexString"], unfollowed := true, recurses := true, named := ["internal/bytealg.MaxLen", "internal/strconv.uint64pow10", "math/bits.deBruijn32tab", "math/bits.deBruijn64tab"], apart := false, laid := [("math/bits.deBruijn32tab", laid_math_bits_deBruijn32tab), ("math/bits.deBruijn64tab", laid_math_bits_deBruijn64tab), ("internal/strconv.uint64pow10", laid_internal_strconv_uint64pow10)] }
def AsmAssemblesSaid : Prop := asmAssemblesRow.holds Tryz.pinned (OpenSpec.ofChange asmAssemblesSpec)

/-- ITS FALSE NEIGHBOUR: 'it returns false'. Refute it at one input. -/
def asmAssemblesWrong : ChangeSpec := { name := "asmAssembles", fn := fun _ => fun
  | [d] => { results := [.lit (.bool false)], args := [d] }
  | _ => none }
def AsmAssemblesWrongFalsely : Prop := asmAssemblesRow.holds Tryz.pinned (OpenSpec.ofChange asmAssemblesWrong)

/-- 'perilunelaw10.AsmTexts': WHATEVER THE INPUT: true; the input reads as it did. -/
def asmTextsSpec : ChangeSpec := { name := "asmTexts", fn := fun _ => fun
  | [d] => { results := [.lit (.bool true)], args := [d] }
  | _ => none }
def asmTextsRow : OpenClaim := { program := "ytkeecnoafjhhdaagreatdoor", sum := "8b2161d98bf4777402370a577a8e546c1e1576a743e47878aaec6c698e939ba2", func := "perilune/perilunelaw10.AsmTexts", spec := "asmTexts", inPlace := ["internal/bytealg.IndexByteString", "internal/bytealg.IndexString"], unfollowed := true, recurses := true, named := ["internal/bytealg.MaxLen", "internal/strconv.uint64pow10", "math/bits.deBruijn32tab", "math/bits.deBruijn64tab"], apart := false, laid := [("math/bits.deBruijn32tab", laid_math_bits_deBruijn32tab), ("math/bits.deBruijn64tab", laid_math_bits_deBruijn64tab), ("internal/strconv.uint64pow10", laid_internal_strconv_uint64pow10)] }
def AsmTextsSaid : Prop := asmTextsRow.holds Tryz.pinned (OpenSpec.ofChange asmTextsSpec)

/-- ITS FALSE NEIGHBOUR: 'it returns false'. Refute it at one input. -/
def asmTextsWrong : ChangeSpec := { name := "asmTexts", fn := fun _ => fun
  | [d] => { results := [.lit (.bool false)], args := [d] }
  | _ => none }
def AsmTextsWrongFalsely : Prop := asmTextsRow.holds Tryz.pinned (OpenSpec.ofChange asmTextsWrong)

/-- 'perilunelaw10.AsmDecodes': WHATEVER THE INPUT: true; the input reads as it did. -/
def asmDecodesSpec : ChangeSpec := { name := "asmDecodes", fn := fun _ => fun
  | [d1, d2] => { results := [.lit (.bool true)], args := [d1, d2] }
  | _ => none }
def asmDecodesRow : OpenClaim := { program := "ytkeecnoafjhhdaagreatdoor", sum := "8b2161d98bf4777402370a577a8e546c1e1576a743e47878aaec6c698e939ba2", func := "perilune/perilunelaw10.AsmDecodes", spec := "asmDecodes", inPlace := ["internal/bytealg.IndexByteString", "internal/bytealg.IndexString"], unfollowed := true, recurses := true, named := ["internal/bytealg.MaxLen", "internal/strconv.uint64pow10", "math/bits.deBruijn32tab", "math/bits.deBruijn64tab"], apart := false, laid := [("math/bits.deBruijn32tab", laid_math_bits_deBruijn32tab), ("math/bits.deBruijn64tab", laid_math_bits_deBruijn64tab), ("internal/strconv.uint64pow10", laid_internal_strconv_uint64pow10)] }
def AsmDecodesSaid : Prop := asmDecodesRow.holds Tryz.pinned (OpenSpec.ofChange asmDecodesSpec)

/-- ITS FALSE NEIGHBOUR: 'it returns false'. Refute it at one input. -/
def asmDecodesWrong : ChangeSpec := { name := "asmDecodes", fn := fun _ => fun
  | [d1, d2] => { results := [.lit (.bool false)], args := [d1, d2] }
  | _ => none }
def AsmDecodesWrongFalsely : Prop := asmDecodesRow.holds Tryz.pinned (OpenSpec.ofChange asmDecodesWrong)

/-- 'perilunelaw10.AsmIgnores': WHATEVER THE INPUT: true; the input reads as it did. -/
def asmIgnoresSpec : ChangeSpec := { name := "asmIgnores", fn := fun _ => fun
  | [d1, d2] => { results := [.lit (.bool true)], args := [d1, d2] }
  | _ => none }
def asmIgnoresRow : OpenClaim := { program := "ytkeecnoafjhhdaagreatdoor", sum := "8b2161d98bf4777402370a577a8e546c1e1576a743e47878aaec6c698e939ba2", func := "perilune/perilunelaw10.AsmIgnores", spec := "asmIgnores", inPlace := ["internal/bytealg.IndexByteString", "internal/bytealg.IndexString"], unfollowed := true, recurses := true, named := ["internal/bytealg.MaxLen", "internal/strconv.uint64pow10", "math/bits.deBruijn32tab", "math/bits.deBruijn64tab"], apart := false, laid := [("math/bits.deBruijn32tab", laid_math_bits_deBruijn32tab), ("math/bits.deBruijn64tab", laid_math_bits_deBruijn64tab), ("internal/strconv.uint64pow10", laid_internal_strconv_uint64pow10)] }
def AsmIgnoresSaid : Prop := asmIgnoresRow.holds Tryz.pinned (OpenSpec.ofChange asmIgnoresSpec)

/-- ITS FALSE NEIGHBOUR: 'it returns false'. Refute it at one input. -/
def asmIgnoresWrong : ChangeSpec := { name := "asmIgnores", fn := fun _ => fun
  | [d1, d2] => { results := [.lit (.bool false)], args := [d1, d2] }
  | _ => none }
def AsmIgnoresWrongFalsely : Prop := asmIgnoresRow.holds Tryz.pinned (OpenSpec.ofChange asmIgnoresWrong)

/-- 'perilunelaw10.AsmSymbols': WHATEVER THE INPUT: true; the input reads as it did. -/
def asmSymbolsSpec : ChangeSpec := { name := "asmSymbols", fn := fun _ => fun
  | [d] => { results := [.lit (.bool true)], args := [d] }
  | _ => none }
def asmSymbolsRow : OpenClaim := { program := "ytkeecnoafjhhdaagreatdoor", sum := "8b2161d98bf4777402370a577a8e546c1e1576a743e47878aaec6c698e939ba2", func := "perilune/perilunelaw10.AsmSymbols", spec := "asmSymbols", inPlace := ["internal/bytealg.IndexByteString", "internal/bytealg.IndexString"], unfollowed := true, recurses := true, named := ["internal/bytealg.MaxLen", "internal/strconv.uint64pow10", "math/bits.deBruijn32tab", "math/bits.deBruijn64tab"], apart := false, laid := [("math/bits.deBruijn32tab", laid_math_bits_deBruijn32tab), ("math/bits.deBruijn64tab", laid_math_bits_deBruijn64tab), ("internal/strconv.uint64pow10", laid_internal_strconv_uint64pow10)] }
def AsmSymbolsSaid : Prop := asmSymbolsRow.holds Tryz.pinned (OpenSpec.ofChange asmSymbolsSpec)

/-- ITS FALSE NEIGHBOUR: 'it returns false'. Refute it at one input. -/
def asmSymbolsWrong : ChangeSpec := { name := "asmSymbols", fn := fun _ => fun
  | [d] => { results := [.lit (.bool false)], args := [d] }
  | _ => none }
def AsmSymbolsWrongFalsely : Prop := asmSymbolsRow.holds Tryz.pinned (OpenSpec.ofChange asmSymbolsWrong)

/-- 'perilunelaw10.AsmKnown': WHATEVER THE INPUT: true; the input reads as it did. -/
def asmKnownSpec : ChangeSpec := { name := "asmKnown", fn := fun _ => fun
  | [] => { results := [.lit (.bool true)], args := [] }
  | _ => none }
def asmKnownRow : OpenClaim := { program := "ytkeecnoafjhhdaagreatdoor", sum := "8b2161d98bf4777402370a577a8e546c1e1576a743e47878aaec6c698e939ba2", func := "perilune/perilunelaw10.AsmKnown", spec := "asmKnown", inPlace := ["internal/bytealg.IndexByteString", "internal/bytealg.IndexString"], unfollowed := true, recurses := true, named := ["internal/strconv.uint64pow10", "math/bits.deBruijn32tab", "math/bits.deBruijn64tab", "internal/bytealg.MaxLen"], apart := false, laid := [("math/bits.deBruijn32tab", laid_math_bits_deBruijn32tab), ("math/bits.deBruijn64tab", laid_math_bits_deBruijn64tab), ("internal/strconv.uint64pow10", laid_internal_strconv_uint64pow10)] }
def AsmKnownSaid : Prop := asmKnownRow.holds Tryz.pinned (OpenSpec.ofChange asmKnownSpec)

/-- ITS FALSE NEIGHBOUR: 'it returns false'. Refute it at one input. -/
def asmKnownWrong : ChangeSpec := { name := "asmKnown", fn := fun _ => fun
  | [] => { results := [.lit (.bool false)], args := [] }
  | _ => none }
def AsmKnownWrongFalsely : Prop := asmKnownRow.holds Tryz.pinned (OpenSpec.ofChange asmKnownWrong)

/-- 'perilunelaw10.AsmReaches': WHATEVER THE INPUT: true; the input reads as it did. -/
def asmReachesSpec : ChangeSpec := { name := "asmReaches", fn := fun _ => fun
  | [d1, d2, d3] => { results := [.lit (.bool true)], args := [d1, d2, d3] }
  | _ => none }
def asmReachesRow : OpenClaim := { program := "ytkeecnoafjhhdaagreatdoor", sum := "8b2161d98bf4777402370a577a8e546c1e1576a743e47878aaec6c698e939ba2", func := "perilune/perilunelaw10.AsmReaches", spec := "asmReaches", inPlace := ["internal/bytealg.IndexByteString", "internal/bytealg.IndexString"], unfollowed := true, recurses := true, named := ["internal/bytealg.MaxLen", "internal/strconv.uint64pow10", "math/bits.deBruijn32tab", "math/bits.deBruijn64tab"], apart := false, laid := [("math/bits.deBruijn32tab", laid_math_bits_deBruijn32tab), ("math/bits.deBruijn64tab", laid_math_bits_deBruijn64tab), ("internal/strconv.uint64pow10", laid_internal_strconv_uint64pow10)] }
def AsmReachesSaid : Prop := asmReachesRow.holds Tryz.pinned (OpenSpec.ofChange asmReachesSpec)

/-- ITS FALSE NEIGHBOUR: 'it returns false'. Refute it at one input. -/
def asmReachesWrong : ChangeSpec := { name := "asmReaches", fn := fun _ => fun
  | [d1, d2, d3] => { results := [.lit (.bool false)], args := [d1, d2, d3] }
  | _ => none }
def AsmReachesWrongFalsely : Prop := asmReachesRow.holds Tryz.pinned (OpenSpec.ofChange asmReachesWrong)

/-- 'perilunelaw10.AsmOrders': WHATEVER THE INPUT: true; the input reads as it did. -/
def asmOrdersSpec : ChangeSpec := { name := "asmOrders", fn := fun _ => fun
  | [d] => { results := [.lit (.bool true)], args := [d] }
  | _ => none }
def asmOrdersRow : OpenClaim := { program := "ytkeecnoafjhhdaagreatdoor", sum := "8b2161d98bf4777402370a577a8e546c1e1576a743e47878aaec6c698e939ba2", func := "perilune/perilunelaw10.AsmOrders", spec := "asmOrders", inPlace := ["internal/bytealg.IndexByteString", "internal/bytealg.IndexString"], unfollowed := true, recurses := true, named := ["internal/bytealg.MaxLen", "internal/strconv.uint64pow10", "math/bits.deBruijn32tab", "math/bits.deBruijn64tab"], apart := false, laid := [("math/bits.deBruijn32tab", laid_math_bits_deBruijn32tab), ("math/bits.deBruijn64tab", laid_math_bits_deBruijn64tab), ("internal/strconv.uint64pow10", laid_internal_strconv_uint64pow10)] }
def AsmOrdersSaid : Prop := asmOrdersRow.holds Tryz.pinned (OpenSpec.ofChange asmOrdersSpec)

/-- ITS FALSE NEIGHBOUR: 'it returns false'. Refute it at one input. -/
def asmOrdersWrong : ChangeSpec := { name := "asmOrders", fn := fun _ => fun
  | [d] => { results := [.lit (.bool false)], args := [d] }
  | _ => none }
def AsmOrdersWrongFalsely : Prop := asmOrdersRow.holds Tryz.pinned (OpenSpec.ofChange asmOrdersWrong)

/-- 'perilunelaw10.AsmRefers': WHATEVER THE INPUT: true; the input reads as it did. -/
def asmRefersSpec : ChangeSpec := { name := "asmRefers", fn := fun _ => fun
  | [d1, d2] => { results := [.lit (.bool true)], args := [d1, d2] }
  | _ => none }
def asmRefersRow : OpenClaim := { program := "ytkeecnoafjhhdaagreatdoor", sum := "8b2161d98bf4777402370a577a8e546c1e1576a743e47878aaec6c698e939ba2", func := "perilune/perilunelaw10.AsmRefers", spec := "asmRefers", inPlace := ["internal/bytealg.IndexByteString", "internal/bytealg.IndexString"], unfollowed := true, recurses := true, named := ["internal/bytealg.MaxLen", "internal/strconv.uint64pow10", "math/bits.deBruijn32tab", "math/bits.deBruijn64tab"], apart := false, laid := [("math/bits.deBruijn32tab", laid_math_bits_deBruijn32tab), ("math/bits.deBruijn64tab", laid_math_bits_deBruijn64tab), ("internal/strconv.uint64pow10", laid_internal_strconv_uint64pow10)] }
def AsmRefersSaid : Prop := asmRefersRow.holds Tryz.pinned (OpenSpec.ofChange asmRefersSpec)

/-- ITS FALSE NEIGHBOUR: 'it returns false'. Refute it at one input. -/
def asmRefersWrong : ChangeSpec := { name := "asmRefers", fn := fun _ => fun
  | [d1, d2] => { results := [.lit (.bool false)], args := [d1, d2] }
  | _ => none }
def AsmRefersWrongFalsely : Prop := asmRefersRow.holds Tryz.pinned (OpenSpec.ofChange asmRefersWrong)

/- THE SECOND FORM. 'bulk': how many values and letters a reading holds, each counted each time it is reached (what is shared counts as often as it is met; a slice's spare places count too). A statement '..UptoSaid' is the law's where the arguments, and the package variables that the reading takes, are together of bulk at most 1048576: NARROWER than '..Said'. Prove '..Said' where nothing that the law and all that it calls make is longer than what came in: it says more and counts as full. Else prove '..UptoSaid'. A law counts once. -/
mutual
def uptoBulk {H : Type} : DataW H → Nat
  | .lit (.string bytes) => bytes.length + 1
  | .lit _ => 1
  | .nil => 1
  | .ptr d => uptoBulk d + 1
  | .slice elems spare => uptoBulkAll elems + uptoBulkAll spare + 1
  | .agg parts => uptoBulkAll parts + 1
  | .iface _ d => uptoBulk d + 1
  | .map entries => uptoBulkEntries entries + 1
  | .held _ => 1
def uptoBulkAll {H : Type} : List (DataW H) → Nat
  | [] => 0
  | d :: r => uptoBulk d + uptoBulkAll r
def uptoBulkEntries {H : Type} : List (Lit × DataW H) → Nat
  | [] => 0
  | x :: r => uptoBulkEntry x + uptoBulkEntries r
def uptoBulkEntry {H : Type} : Lit × DataW H → Nat
  | (.string bytes, d) => bytes.length + uptoBulk d + 1
  | (_, d) => uptoBulk d + 1
 end
def uptoSmall : (H : Type) → List (DataW H) → Bool := fun _ ds => decide (uptoBulkAll ds ≤ 1048576)
def OpenSpec.upto (s : _root_.Go.ChangeSpec) : _root_.Go.OpenSpec := { _root_.Go.OpenSpec.ofChange s with cond := some uptoSmall }

/-- 'perilunelaw10.AsmAssembles', WHERE WHAT IT READS IS OF BULK AT MOST 1048576: true; the input reads as it did. -/
def asmAssemblesUptoRow : OpenClaim := { program := "ytkeecnoafjhhdaagreatdoor", sum := "8b2161d98bf4777402370a577a8e546c1e1576a743e47878aaec6c698e939ba2", func := "perilune/perilunelaw10.AsmAssembles", spec := "asmAssembles", inPlace := ["internal/bytealg.IndexByteString", "internal/bytealg.IndexString"], unfollowed := true, recurses := true, named := ["internal/bytealg.MaxLen", "internal/strconv.uint64pow10", "math/bits.deBruijn32tab", "math/bits.deBruijn64tab"], apart := false, laid := [("math/bits.deBruijn32tab", laid_math_bits_deBruijn32tab), ("math/bits.deBruijn64tab", laid_math_bits_deBruijn64tab), ("internal/strconv.uint64pow10", laid_internal_strconv_uint64pow10)], narrowed := true }
def AsmAssemblesUptoSaid : Prop := asmAssemblesUptoRow.holds Tryz.pinned (OpenSpec.upto asmAssemblesSpec)

/-- 'perilunelaw10.AsmTexts', WHERE WHAT IT READS IS OF BULK AT MOST 1048576: true; the input reads as it did. -/
def asmTextsUptoRow : OpenClaim := { program := "ytkeecnoafjhhdaagreatdoor", sum := "8b2161d98bf4777402370a577a8e546c1e1576a743e47878aaec6c698e939ba2", func := "perilune/perilunelaw10.AsmTexts", spec := "asmTexts", inPlace := ["internal/bytealg.IndexByteString", "internal/bytealg.IndexString"], unfollowed := true, recurses := true, named := ["internal/bytealg.MaxLen", "internal/strconv.uint64pow10", "math/bits.deBruijn32tab", "math/bits.deBruijn64tab"], apart := false, laid := [("math/bits.deBruijn32tab", laid_math_bits_deBruijn32tab), ("math/bits.deBruijn64tab", laid_math_bits_deBruijn64tab), ("internal/strconv.uint64pow10", laid_internal_strconv_uint64pow10)], narrowed := true }
def AsmTextsUptoSaid : Prop := asmTextsUptoRow.holds Tryz.pinned (OpenSpec.upto asmTextsSpec)

/-- 'perilunelaw10.AsmDecodes', WHERE WHAT IT READS IS OF BULK AT MOST 1048576: true; the input reads as it did. -/
def asmDecodesUptoRow : OpenClaim := { program := "ytkeecnoafjhhdaagreatdoor", sum := "8b2161d98bf4777402370a577a8e546c1e1576a743e47878aaec6c698e939ba2", func := "perilune/perilunelaw10.AsmDecodes", spec := "asmDecodes", inPlace := ["internal/bytealg.IndexByteString", "internal/bytealg.IndexString"], unfollowed := true, recurses := true, named := ["internal/bytealg.MaxLen", "internal/strconv.uint64pow10", "math/bits.deBruijn32tab", "math/bits.deBruijn64tab"], apart := false, laid := [("math/bits.deBruijn32tab", laid_math_bits_deBruijn32tab), ("math/bits.deBruijn64tab", laid_math_bits_deBruijn64tab), ("internal/strconv.uint64pow10", laid_internal_strconv_uint64pow10)], narrowed := true }
def AsmDecodesUptoSaid : Prop := asmDecodesUptoRow.holds Tryz.pinned (OpenSpec.upto asmDecodesSpec)

/-- 'perilunelaw10.AsmIgnores', WHERE WHAT IT READS IS OF BULK AT MOST 1048576: true; the input reads as it did. -/
def asmIgnoresUptoRow : OpenClaim := { program := "ytkeecnoafjhhdaagreatdoor", sum := "8b2161d98bf4777402370a577a8e546c1e1576a743e47878aaec6c698e939ba2", func := "perilune/perilunelaw10.AsmIgnores", spec := "asmIgnores", inPlace := ["internal/bytealg.IndexByteString", "internal/bytealg.IndexString"], unfollowed := true, recurses := true, named := ["internal/bytealg.MaxLen", "internal/strconv.uint64pow10", "math/bits.deBruijn32tab", "math/bits.deBruijn64tab"], apart := false, laid := [("math/bits.deBruijn32tab", laid_math_bits_deBruijn32tab), ("math/bits.deBruijn64tab", laid_math_bits_deBruijn64tab), ("internal/strconv.uint64pow10", laid_internal_strconv_uint64pow10)], narrowed := true }
def AsmIgnoresUptoSaid : Prop := asmIgnoresUptoRow.holds Tryz.pinned (OpenSpec.upto asmIgnoresSpec)

/-- 'perilunelaw10.AsmSymbols', WHERE WHAT IT READS IS OF BULK AT MOST 1048576: true; the input reads as it did. -/
def asmSymbolsUptoRow : OpenClaim := { program := "ytkeecnoafjhhdaagreatdoor", sum := "8b2161d98bf4777402370a577a8e546c1e1576a743e47878aaec6c698e939ba2", func := "perilune/perilunelaw10.AsmSymbols", spec := "asmSymbols", inPlace := ["internal/bytealg.IndexByteString", "internal/bytealg.IndexString"], unfollowed := true, recurses := true, named := ["internal/bytealg.MaxLen", "internal/strconv.uint64pow10", "math/bits.deBruijn32tab", "math/bits.deBruijn64tab"], apart := false, laid := [("math/bits.deBruijn32tab", laid_math_bits_deBruijn32tab), ("math/bits.deBruijn64tab", laid_math_bits_deBruijn64tab), ("internal/strconv.uint64pow10", laid_internal_strconv_uint64pow10)], narrowed := true }
def AsmSymbolsUptoSaid : Prop := asmSymbolsUptoRow.holds Tryz.pinned (OpenSpec.upto asmSymbolsSpec)

/-- 'perilunelaw10.AsmKnown', WHERE WHAT IT READS IS OF BULK AT MOST 1048576: true; the input reads as it did. -/
def asmKnownUptoRow : OpenClaim := { program := "ytkeecnoafjhhdaagreatdoor", sum := "8b2161d98bf4777402370a577a8e546c1e1576a743e47878aaec6c698e939ba2", func := "perilune/perilunelaw10.AsmKnown", spec := "asmKnown", inPlace := ["internal/bytealg.IndexByteString", "internal/bytealg.IndexString"], unfollowed := true, recurses := true, named := ["internal/strconv.uint64pow10", "math/bits.deBruijn32tab", "math/bits.deBruijn64tab", "internal/bytealg.MaxLen"], apart := false, laid := [("math/bits.deBruijn32tab", laid_math_bits_deBruijn32tab), ("math/bits.deBruijn64tab", laid_math_bits_deBruijn64tab), ("internal/strconv.uint64pow10", laid_internal_strconv_uint64pow10)], narrowed := true }
def AsmKnownUptoSaid : Prop := asmKnownUptoRow.holds Tryz.pinned (OpenSpec.upto asmKnownSpec)

/-- 'perilunelaw10.AsmReaches', WHERE WHAT IT READS IS OF BULK AT MOST 1048576: true; the input reads as it did. -/
def asmReachesUptoRow : OpenClaim := { program := "ytkeecnoafjhhdaagreatdoor", sum := "8b2161d98bf4777402370a577a8e546c1e1576a743e47878aaec6c698e939ba2", func := "perilune/perilunelaw10.AsmReaches", spec := "asmReaches", inPlace := ["internal/bytealg.IndexByteString", "internal/bytealg.IndexString"], unfollowed := true, recurses := true, named := ["internal/bytealg.MaxLen", "internal/strconv.uint64pow10", "math/bits.deBruijn32tab", "math/bits.deBruijn64tab"], apart := false, laid := [("math/bits.deBruijn32tab", laid_math_bits_deBruijn32tab), ("math/bits.deBruijn64tab", laid_math_bits_deBruijn64tab), ("internal/strconv.uint64pow10", laid_internal_strconv_uint64pow10)], narrowed := true }
def AsmReachesUptoSaid : Prop := asmReachesUptoRow.holds Tryz.pinned (OpenSpec.upto asmReachesSpec)

/-- 'perilunelaw10.AsmOrders', WHERE WHAT IT READS IS OF BULK AT MOST 1048576: true; the input reads as it did. -/
def asmOrdersUptoRow : OpenClaim := { program := "ytkeecnoafjhhdaagreatdoor", sum := "8b2161d98bf4777402370a577a8e546c1e1576a743e47878aaec6c698e939ba2", func := "perilune/perilunelaw10.AsmOrders", spec := "asmOrders", inPlace := ["internal/bytealg.IndexByteString", "internal/bytealg.IndexString"], unfollowed := true, recurses := true, named := ["internal/bytealg.MaxLen", "internal/strconv.uint64pow10", "math/bits.deBruijn32tab", "math/bits.deBruijn64tab"], apart := false, laid := [("math/bits.deBruijn32tab", laid_math_bits_deBruijn32tab), ("math/bits.deBruijn64tab", laid_math_bits_deBruijn64tab), ("internal/strconv.uint64pow10", laid_internal_strconv_uint64pow10)], narrowed := true }
def AsmOrdersUptoSaid : Prop := asmOrdersUptoRow.holds Tryz.pinned (OpenSpec.upto asmOrdersSpec)

/-- 'perilunelaw10.AsmRefers', WHERE WHAT IT READS IS OF BULK AT MOST 1048576: true; the input reads as it did. -/
def asmRefersUptoRow : OpenClaim := { program := "ytkeecnoafjhhdaagreatdoor", sum := "8b2161d98bf4777402370a577a8e546c1e1576a743e47878aaec6c698e939ba2", func := "perilune/perilunelaw10.AsmRefers", spec := "asmRefers", inPlace := ["internal/bytealg.IndexByteString", "internal/bytealg.IndexString"], unfollowed := true, recurses := true, named := ["internal/bytealg.MaxLen", "internal/strconv.uint64pow10", "math/bits.deBruijn32tab", "math/bits.deBruijn64tab"], apart := false, laid := [("math/bits.deBruijn32tab", laid_math_bits_deBruijn32tab), ("math/bits.deBruijn64tab", laid_math_bits_deBruijn64tab), ("internal/strconv.uint64pow10", laid_internal_strconv_uint64pow10)], narrowed := true }
def AsmRefersUptoSaid : Prop := asmRefersUptoRow.holds Tryz.pinned (OpenSpec.upto asmRefersSpec)

end Rows
end Go.Proofs.YtkeecnoafjhhdaaGreatDoor
