/-
  No cell of these rows narrows 'for every input' (looked for: loops, veiled, ifaces, maps, wideKeys, modest, calm, conditions, laid).
  DERIVED. THE GIVEN ROWS OF THIS SEAT. 12 by the template 'for every input the law returns true; each argument reads behind the call as it read before'; 0 by the template 'total and deterministic' (their statements: YtioccpodnkllfaaTotals.lean).
  GIVEN WITH THE SEED: the statements are not yours to turn. If you find one false, say at which input.
  Laid BY PROGRAM, IN A SANDBOX (cutbox-rows.mjs): the forced cells as the released guide's own fill.sh prints them over the translation f737cdae1e7ca629… (all of the seat's roots in one cut). By AI agents, Wed Nov 11 2026. No macro, syntax, notation, axiom, sorry.
-/
import Derived.Test.YtioccpodnkllfaaChecked
import GoSem.Claim
import GoSem.ClaimJoined
import GoSem.ClaimMapViews
import Derived.JoinedTies
import Derived.KernelRfl
namespace Go.Proofs.Ytioccpodnkllfaa
/- THE CELL 'sum', in the pinned program and in every row, IS THE sha256 OF THE DUMP (.gsa) THAT YtioccpodnkllfaaProg.lean LOADS. Nothing in Lean hashes anything: it is a label: what it is worth is what the hold of that sum in a sandbox is worth. -/
noncomputable def Try.pinned : Pinned := { name := "ytioccpodnkllfaa", sum := "f737cdae1e7ca6290fccc874b8788534c2364687c19c4b04a0195826b6647c2f", checked := Try.checked }
namespace Rows
def none {H : Type} : Left H := { results := [], args := [] }

/-- 'perilunelaw11.RopeObjects': WHATEVER THE INPUT: true; the input reads as it did. -/
def ropeObjectsSpec : ChangeSpec := { name := "ropeObjects", fn := fun _ => fun
  | [d] => { results := [.lit (.bool true)], args := [d] }
  | _ => none }
def ropeObjectsRow : OpenClaim := { program := "ytioccpodnkllfaa", sum := "f737cdae1e7ca6290fccc874b8788534c2364687c19c4b04a0195826b6647c2f", func := "perilune/perilunelaw11.RopeObjects", spec := "ropeObjects", unfollowed := true, recurses := true, apart := false }
def RopeObjectsSaid : Prop := ropeObjectsRow.holds Try.pinned (OpenSpec.ofChange ropeObjectsSpec)

/-- ITS FALSE NEIGHBOUR: 'it returns false'. Refute it at one input. -/
def ropeObjectsWrong : ChangeSpec := { name := "ropeObjects", fn := fun _ => fun
  | [d] => { results := [.lit (.bool false)], args := [d] }
  | _ => none }
def RopeObjectsWrongFalsely : Prop := ropeObjectsRow.holds Try.pinned (OpenSpec.ofChange ropeObjectsWrong)

/-- 'perilunelaw11.RopeSeals': WHATEVER THE INPUT: true; the input reads as it did. -/
def ropeSealsSpec : ChangeSpec := { name := "ropeSeals", fn := fun _ => fun
  | [d] => { results := [.lit (.bool true)], args := [d] }
  | _ => none }
def ropeSealsRow : OpenClaim := { program := "ytioccpodnkllfaa", sum := "f737cdae1e7ca6290fccc874b8788534c2364687c19c4b04a0195826b6647c2f", func := "perilune/perilunelaw11.RopeSeals", spec := "ropeSeals", unfollowed := true, recurses := true, apart := false }
def RopeSealsSaid : Prop := ropeSealsRow.holds Try.pinned (OpenSpec.ofChange ropeSealsSpec)

/-- ITS FALSE NEIGHBOUR: 'it returns false'. Refute it at one input. -/
def ropeSealsWrong : ChangeSpec := { name := "ropeSeals", fn := fun _ => fun
  | [d] => { results := [.lit (.bool false)], args := [d] }
  | _ => none }
def RopeSealsWrongFalsely : Prop := ropeSealsRow.holds Try.pinned (OpenSpec.ofChange ropeSealsWrong)

/-- 'perilunelaw11.RopePacks': WHATEVER THE INPUT: true; the input reads as it did. -/
def ropePacksSpec : ChangeSpec := { name := "ropePacks", fn := fun _ => fun
  | [d] => { results := [.lit (.bool true)], args := [d] }
  | _ => none }
def ropePacksRow : OpenClaim := { program := "ytioccpodnkllfaa", sum := "f737cdae1e7ca6290fccc874b8788534c2364687c19c4b04a0195826b6647c2f", func := "perilune/perilunelaw11.RopePacks", spec := "ropePacks", unfollowed := true, recurses := true, apart := false }
def RopePacksSaid : Prop := ropePacksRow.holds Try.pinned (OpenSpec.ofChange ropePacksSpec)

/-- ITS FALSE NEIGHBOUR: 'it returns false'. Refute it at one input. -/
def ropePacksWrong : ChangeSpec := { name := "ropePacks", fn := fun _ => fun
  | [d] => { results := [.lit (.bool false)], args := [d] }
  | _ => none }
def RopePacksWrongFalsely : Prop := ropePacksRow.holds Try.pinned (OpenSpec.ofChange ropePacksWrong)

/-- 'perilunelaw11.RopeUnpacks': WHATEVER THE INPUT: true; the input reads as it did. -/
def ropeUnpacksSpec : ChangeSpec := { name := "ropeUnpacks", fn := fun _ => fun
  | [d] => { results := [.lit (.bool true)], args := [d] }
  | _ => none }
def ropeUnpacksRow : OpenClaim := { program := "ytioccpodnkllfaa", sum := "f737cdae1e7ca6290fccc874b8788534c2364687c19c4b04a0195826b6647c2f", func := "perilune/perilunelaw11.RopeUnpacks", spec := "ropeUnpacks", unfollowed := true, recurses := true, apart := false }
def RopeUnpacksSaid : Prop := ropeUnpacksRow.holds Try.pinned (OpenSpec.ofChange ropeUnpacksSpec)

/-- ITS FALSE NEIGHBOUR: 'it returns false'. Refute it at one input. -/
def ropeUnpacksWrong : ChangeSpec := { name := "ropeUnpacks", fn := fun _ => fun
  | [d] => { results := [.lit (.bool false)], args := [d] }
  | _ => none }
def RopeUnpacksWrongFalsely : Prop := ropeUnpacksRow.holds Try.pinned (OpenSpec.ofChange ropeUnpacksWrong)

/-- 'perilunelaw11.RopeRound': WHATEVER THE INPUT: true; the input reads as it did. -/
def ropeRoundSpec : ChangeSpec := { name := "ropeRound", fn := fun _ => fun
  | [d] => { results := [.lit (.bool true)], args := [d] }
  | _ => none }
def ropeRoundRow : OpenClaim := { program := "ytioccpodnkllfaa", sum := "f737cdae1e7ca6290fccc874b8788534c2364687c19c4b04a0195826b6647c2f", func := "perilune/perilunelaw11.RopeRound", spec := "ropeRound", unfollowed := true, recurses := true, apart := false }
def RopeRoundSaid : Prop := ropeRoundRow.holds Try.pinned (OpenSpec.ofChange ropeRoundSpec)

/-- ITS FALSE NEIGHBOUR: 'it returns false'. Refute it at one input. -/
def ropeRoundWrong : ChangeSpec := { name := "ropeRound", fn := fun _ => fun
  | [d] => { results := [.lit (.bool false)], args := [d] }
  | _ => none }
def RopeRoundWrongFalsely : Prop := ropeRoundRow.holds Try.pinned (OpenSpec.ofChange ropeRoundWrong)

/-- 'perilunelaw11.RopeBack': WHATEVER THE INPUT: true; the input reads as it did. -/
def ropeBackSpec : ChangeSpec := { name := "ropeBack", fn := fun _ => fun
  | [d] => { results := [.lit (.bool true)], args := [d] }
  | _ => none }
def ropeBackRow : OpenClaim := { program := "ytioccpodnkllfaa", sum := "f737cdae1e7ca6290fccc874b8788534c2364687c19c4b04a0195826b6647c2f", func := "perilune/perilunelaw11.RopeBack", spec := "ropeBack", unfollowed := true, recurses := true, apart := false }
def RopeBackSaid : Prop := ropeBackRow.holds Try.pinned (OpenSpec.ofChange ropeBackSpec)

/-- ITS FALSE NEIGHBOUR: 'it returns false'. Refute it at one input. -/
def ropeBackWrong : ChangeSpec := { name := "ropeBack", fn := fun _ => fun
  | [d] => { results := [.lit (.bool false)], args := [d] }
  | _ => none }
def RopeBackWrongFalsely : Prop := ropeBackRow.holds Try.pinned (OpenSpec.ofChange ropeBackWrong)

/-- 'perilunelaw11.RopeSealed': WHATEVER THE INPUT: true; the input reads as it did. -/
def ropeSealedSpec : ChangeSpec := { name := "ropeSealed", fn := fun _ => fun
  | [d1, d2] => { results := [.lit (.bool true)], args := [d1, d2] }
  | _ => none }
def ropeSealedRow : OpenClaim := { program := "ytioccpodnkllfaa", sum := "f737cdae1e7ca6290fccc874b8788534c2364687c19c4b04a0195826b6647c2f", func := "perilune/perilunelaw11.RopeSealed", spec := "ropeSealed", unfollowed := true, recurses := true, apart := false }
def RopeSealedSaid : Prop := ropeSealedRow.holds Try.pinned (OpenSpec.ofChange ropeSealedSpec)

/-- ITS FALSE NEIGHBOUR: 'it returns false'. Refute it at one input. -/
def ropeSealedWrong : ChangeSpec := { name := "ropeSealed", fn := fun _ => fun
  | [d1, d2] => { results := [.lit (.bool false)], args := [d1, d2] }
  | _ => none }
def RopeSealedWrongFalsely : Prop := ropeSealedRow.holds Try.pinned (OpenSpec.ofChange ropeSealedWrong)

/-- 'perilunelaw11.RopeSums': WHATEVER THE INPUT: true; the input reads as it did. -/
def ropeSumsSpec : ChangeSpec := { name := "ropeSums", fn := fun _ => fun
  | [d1, d2] => { results := [.lit (.bool true)], args := [d1, d2] }
  | _ => none }
def ropeSumsRow : OpenClaim := { program := "ytioccpodnkllfaa", sum := "f737cdae1e7ca6290fccc874b8788534c2364687c19c4b04a0195826b6647c2f", func := "perilune/perilunelaw11.RopeSums", spec := "ropeSums", unfollowed := true, recurses := true, apart := false }
def RopeSumsSaid : Prop := ropeSumsRow.holds Try.pinned (OpenSpec.ofChange ropeSumsSpec)

/-- ITS FALSE NEIGHBOUR: 'it returns false'. Refute it at one input. -/
def ropeSumsWrong : ChangeSpec := { name := "ropeSums", fn := fun _ => fun
  | [d1, d2] => { results := [.lit (.bool false)], args := [d1, d2] }
  | _ => none }
def RopeSumsWrongFalsely : Prop := ropeSumsRow.holds Try.pinned (OpenSpec.ofChange ropeSumsWrong)

/-- 'perilunelaw11.RopeInverts': WHATEVER THE INPUT: true; the input reads as it did. -/
def ropeInvertsSpec : ChangeSpec := { name := "ropeInverts", fn := fun _ => fun
  | [d1, d2] => { results := [.lit (.bool true)], args := [d1, d2] }
  | _ => none }
def ropeInvertsRow : OpenClaim := { program := "ytioccpodnkllfaa", sum := "f737cdae1e7ca6290fccc874b8788534c2364687c19c4b04a0195826b6647c2f", func := "perilune/perilunelaw11.RopeInverts", spec := "ropeInverts", unfollowed := true, recurses := true, apart := false }
def RopeInvertsSaid : Prop := ropeInvertsRow.holds Try.pinned (OpenSpec.ofChange ropeInvertsSpec)

/-- ITS FALSE NEIGHBOUR: 'it returns false'. Refute it at one input. -/
def ropeInvertsWrong : ChangeSpec := { name := "ropeInverts", fn := fun _ => fun
  | [d1, d2] => { results := [.lit (.bool false)], args := [d1, d2] }
  | _ => none }
def RopeInvertsWrongFalsely : Prop := ropeInvertsRow.holds Try.pinned (OpenSpec.ofChange ropeInvertsWrong)

/-- 'perilunelaw11.RopeTwo': WHATEVER THE INPUT: true; the input reads as it did. -/
def ropeTwoSpec : ChangeSpec := { name := "ropeTwo", fn := fun _ => fun
  | [d1, d2] => { results := [.lit (.bool true)], args := [d1, d2] }
  | _ => none }
def ropeTwoRow : OpenClaim := { program := "ytioccpodnkllfaa", sum := "f737cdae1e7ca6290fccc874b8788534c2364687c19c4b04a0195826b6647c2f", func := "perilune/perilunelaw11.RopeTwo", spec := "ropeTwo", unfollowed := true, recurses := true, apart := false }
def RopeTwoSaid : Prop := ropeTwoRow.holds Try.pinned (OpenSpec.ofChange ropeTwoSpec)

/-- ITS FALSE NEIGHBOUR: 'it returns false'. Refute it at one input. -/
def ropeTwoWrong : ChangeSpec := { name := "ropeTwo", fn := fun _ => fun
  | [d1, d2] => { results := [.lit (.bool false)], args := [d1, d2] }
  | _ => none }
def RopeTwoWrongFalsely : Prop := ropeTwoRow.holds Try.pinned (OpenSpec.ofChange ropeTwoWrong)

/-- 'perilunelaw11.RopeCuts': WHATEVER THE INPUT: true; the input reads as it did. -/
def ropeCutsSpec : ChangeSpec := { name := "ropeCuts", fn := fun _ => fun
  | [d1, d2, d3] => { results := [.lit (.bool true)], args := [d1, d2, d3] }
  | _ => none }
def ropeCutsRow : OpenClaim := { program := "ytioccpodnkllfaa", sum := "f737cdae1e7ca6290fccc874b8788534c2364687c19c4b04a0195826b6647c2f", func := "perilune/perilunelaw11.RopeCuts", spec := "ropeCuts", unfollowed := true, recurses := true, apart := false }
def RopeCutsSaid : Prop := ropeCutsRow.holds Try.pinned (OpenSpec.ofChange ropeCutsSpec)

/-- ITS FALSE NEIGHBOUR: 'it returns false'. Refute it at one input. -/
def ropeCutsWrong : ChangeSpec := { name := "ropeCuts", fn := fun _ => fun
  | [d1, d2, d3] => { results := [.lit (.bool false)], args := [d1, d2, d3] }
  | _ => none }
def RopeCutsWrongFalsely : Prop := ropeCutsRow.holds Try.pinned (OpenSpec.ofChange ropeCutsWrong)

/-- 'perilunelaw11.RopeKnown': WHATEVER THE INPUT: true; the input reads as it did. -/
def ropeKnownSpec : ChangeSpec := { name := "ropeKnown", fn := fun _ => fun
  | [] => { results := [.lit (.bool true)], args := [] }
  | _ => none }
def ropeKnownRow : OpenClaim := { program := "ytioccpodnkllfaa", sum := "f737cdae1e7ca6290fccc874b8788534c2364687c19c4b04a0195826b6647c2f", func := "perilune/perilunelaw11.RopeKnown", spec := "ropeKnown", unfollowed := true, recurses := true, apart := false }
def RopeKnownSaid : Prop := ropeKnownRow.holds Try.pinned (OpenSpec.ofChange ropeKnownSpec)

/-- ITS FALSE NEIGHBOUR: 'it returns false'. Refute it at one input. -/
def ropeKnownWrong : ChangeSpec := { name := "ropeKnown", fn := fun _ => fun
  | [] => { results := [.lit (.bool false)], args := [] }
  | _ => none }
def RopeKnownWrongFalsely : Prop := ropeKnownRow.holds Try.pinned (OpenSpec.ofChange ropeKnownWrong)

/- THE SECOND FORM. 'bulk': how many values and letters a reading holds, each counted each time it is reached (what is shared counts as often as it is met; a slice's spare places count too). A statement '..UptoSaid' is the law's where the arguments, and the package variables that the reading takes, are together of bulk at most 1048576: NARROWER than '..Said'. Prove '..Said' where nothing that the law and all that it calls make is longer than what came in: it says more and counts as full. Else prove '..UptoSaid'. A law counts once. -/
mutual
def uptoBulk {H : Type} : DataW H → Nat
  | .lit (.string bytes) => bytes.length + 1
  | .lit _ => 1
  | .nil => 1
  | .ptr d => uptoBulk d + 1
  | .slice elems spare => uptoBulkAll elems + uptoBulkAll spare + 1
  | .agg parts => uptoBulkAll parts + 1
  | .iface _ d => uptoBulk d + 1
  | .map entries => uptoBulkEntries entries + 1
  | .held _ => 1
def uptoBulkAll {H : Type} : List (DataW H) → Nat
  | [] => 0
  | d :: r => uptoBulk d + uptoBulkAll r
def uptoBulkEntries {H : Type} : List (Lit × DataW H) → Nat
  | [] => 0
  | x :: r => uptoBulkEntry x + uptoBulkEntries r
def uptoBulkEntry {H : Type} : Lit × DataW H → Nat
  | (.string bytes, d) => bytes.length + uptoBulk d + 1
  | (_, d) => uptoBulk d + 1
 end
def uptoSmall : (H : Type) → List (DataW H) → Bool := fun _ ds => decide (uptoBulkAll ds ≤ 1048576)
def OpenSpec.upto (s : _root_.Go.ChangeSpec) : _root_.Go.OpenSpec := { _root_.Go.OpenSpec.ofChange s with cond := some uptoSmall }

/-- 'perilunelaw11.RopeObjects', WHERE WHAT IT READS IS OF BULK AT MOST 1048576: true; the input reads as it did. -/
def ropeObjectsUptoRow : OpenClaim := { program := "ytioccpodnkllfaa", sum := "f737cdae1e7ca6290fccc874b8788534c2364687c19c4b04a0195826b6647c2f", func := "perilune/perilunelaw11.RopeObjects", spec := "ropeObjects", unfollowed := true, recurses := true, apart := false, narrowed := true }
def RopeObjectsUptoSaid : Prop := ropeObjectsUptoRow.holds Try.pinned (OpenSpec.upto ropeObjectsSpec)

/-- 'perilunelaw11.RopeSeals', WHERE WHAT IT READS IS OF BULK AT MOST 1048576: true; the input reads as it did. -/
def ropeSealsUptoRow : OpenClaim := { program := "ytioccpodnkllfaa", sum := "f737cdae1e7ca6290fccc874b8788534c2364687c19c4b04a0195826b6647c2f", func := "perilune/perilunelaw11.RopeSeals", spec := "ropeSeals", unfollowed := true, recurses := true, apart := false, narrowed := true }
def RopeSealsUptoSaid : Prop := ropeSealsUptoRow.holds Try.pinned (OpenSpec.upto ropeSealsSpec)

/-- 'perilunelaw11.RopePacks', WHERE WHAT IT READS IS OF BULK AT MOST 1048576: true; the input reads as it did. -/
def ropePacksUptoRow : OpenClaim := { program := "ytioccpodnkllfaa", sum := "f737cdae1e7ca6290fccc874b8788534c2364687c19c4b04a0195826b6647c2f", func := "perilune/perilunelaw11.RopePacks", spec := "ropePacks", unfollowed := true, recurses := true, apart := false, narrowed := true }
def RopePacksUptoSaid : Prop := ropePacksUptoRow.holds Try.pinned (OpenSpec.upto ropePacksSpec)

/-- 'perilunelaw11.RopeUnpacks', WHERE WHAT IT READS IS OF BULK AT MOST 1048576: true; the input reads as it did. -/
def ropeUnpacksUptoRow : OpenClaim := { program := "ytioccpodnkllfaa", sum := "f737cdae1e7ca6290fccc874b8788534c2364687c19c4b04a0195826b6647c2f", func := "perilune/perilunelaw11.RopeUnpacks", spec := "ropeUnpacks", unfollowed := true, recurses := true, apart := false, narrowed := true }
def RopeUnpacksUptoSaid : Prop := ropeUnpacksUptoRow.holds Try.pinned (OpenSpec.upto ropeUnpacksSpec)

/-- 'perilunelaw11.RopeRound', WHERE WHAT IT READS IS OF BULK AT MOST 1048576: true; the input reads as it did. -/
def ropeRoundUptoRow : OpenClaim := { program := "ytioccpodnkllfaa", sum := "f737cdae1e7ca6290fccc874b8788534c2364687c19c4b04a0195826b6647c2f", func := "perilune/perilunelaw11.RopeRound", spec := "ropeRound", unfollowed := true, recurses := true, apart := false, narrowed := true }
def RopeRoundUptoSaid : Prop := ropeRoundUptoRow.holds Try.pinned (OpenSpec.upto ropeRoundSpec)

/-- 'perilunelaw11.RopeBack', WHERE WHAT IT READS IS OF BULK AT MOST 1048576: true; the input reads as it did. -/
def ropeBackUptoRow : OpenClaim := { program := "ytioccpodnkllfaa", sum := "f737cdae1e7ca6290fccc874b8788534c2364687c19c4b04a0195826b6647c2f", func := "perilune/perilunelaw11.RopeBack", spec := "ropeBack", unfollowed := true, recurses := true, apart := false, narrowed := true }
def RopeBackUptoSaid : Prop := ropeBackUptoRow.holds Try.pinned (OpenSpec.upto ropeBackSpec)

/-- 'perilunelaw11.RopeSealed', WHERE WHAT IT READS IS OF BULK AT MOST 1048576: true; the input reads as it did. -/
def ropeSealedUptoRow : OpenClaim := { program := "ytioccpodnkllfaa", sum := "f737cdae1e7ca6290fccc874b8788534c2364687c19c4b04a0195826b6647c2f", func := "perilune/perilunelaw11.RopeSealed", spec := "ropeSealed", unfollowed := true, recurses := true, apart := false, narrowed := true }
def RopeSealedUptoSaid : Prop := ropeSealedUptoRow.holds Try.pinned (OpenSpec.upto ropeSealedSpec)

/-- 'perilunelaw11.RopeSums', WHERE WHAT IT READS IS OF BULK AT MOST 1048576: true; the input reads as it did. -/
def ropeSumsUptoRow : OpenClaim := { program := "ytioccpodnkllfaa", sum := "f737cdae1e7ca6290fccc874b8788534c2364687c19c4b04a0195826b6647c2f", func := "perilune/perilunelaw11.RopeSums", spec := "ropeSums", unfollowed := true, recurses := true, apart := false, narrowed := true }
def RopeSumsUptoSaid : Prop := ropeSumsUptoRow.holds Try.pinned (OpenSpec.upto ropeSumsSpec)

/-- 'perilunelaw11.RopeInverts', WHERE WHAT IT READS IS OF BULK AT MOST 1048576: true; the input reads as it did. -/
def ropeInvertsUptoRow : OpenClaim := { program := "ytioccpodnkllfaa", sum := "f737cdae1e7ca6290fccc874b8788534c2364687c19c4b04a0195826b6647c2f", func := "perilune/perilunelaw11.RopeInverts", spec := "ropeInverts", unfollowed := true, recurses := true, apart := false, narrowed := true }
def RopeInvertsUptoSaid : Prop := ropeInvertsUptoRow.holds Try.pinned (OpenSpec.upto ropeInvertsSpec)

/-- 'perilunelaw11.RopeTwo', WHERE WHAT IT READS IS OF BULK AT MOST 1048576: true; the input reads as it did. -/
def ropeTwoUptoRow : OpenClaim := { program := "ytioccpodnkllfaa", sum := "f737cdae1e7ca6290fccc874b8788534c2364687c19c4b04a0195826b6647c2f", func := "perilune/perilunelaw11.RopeTwo", spec := "ropeTwo", unfollowed := true, recurses := true, apart := false, narrowed := true }
def RopeTwoUptoSaid : Prop := ropeTwoUptoRow.holds Try.pinned (OpenSpec.upto ropeTwoSpec)

/-- 'perilunelaw11.RopeCuts', WHERE WHAT IT READS IS OF BULK AT MOST 1048576: true; the input reads as it did. -/
def ropeCutsUptoRow : OpenClaim := { program := "ytioccpodnkllfaa", sum := "f737cdae1e7ca6290fccc874b8788534c2364687c19c4b04a0195826b6647c2f", func := "perilune/perilunelaw11.RopeCuts", spec := "ropeCuts", unfollowed := true, recurses := true, apart := false, narrowed := true }
def RopeCutsUptoSaid : Prop := ropeCutsUptoRow.holds Try.pinned (OpenSpec.upto ropeCutsSpec)

/-- 'perilunelaw11.RopeKnown', WHERE WHAT IT READS IS OF BULK AT MOST 1048576: true; the input reads as it did. -/
def ropeKnownUptoRow : OpenClaim := { program := "ytioccpodnkllfaa", sum := "f737cdae1e7ca6290fccc874b8788534c2364687c19c4b04a0195826b6647c2f", func := "perilune/perilunelaw11.RopeKnown", spec := "ropeKnown", unfollowed := true, recurses := true, apart := false, narrowed := true }
def RopeKnownUptoSaid : Prop := ropeKnownUptoRow.holds Try.pinned (OpenSpec.upto ropeKnownSpec)

end Rows
end Go.Proofs.Ytioccpodnkllfaa
