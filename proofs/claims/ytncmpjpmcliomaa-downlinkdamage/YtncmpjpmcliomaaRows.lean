/-
  No cell of these rows narrows 'for every input' (looked for: loops, veiled, ifaces, maps, wideKeys, modest, calm, conditions, laid).
  DERIVED. THE GIVEN ROWS OF THIS SEAT. 9 by the template 'for every input the law returns true; each argument reads behind the call as it read before'; 0 by the template 'total and deterministic' (their statements: YtncmpjpmcliomaaTotals.lean).
  GIVEN WITH THE SEED: the statements are not yours to turn. If you find one false, say at which input.
  Laid BY PROGRAM, IN A SANDBOX (cutbox-rows.mjs): the forced cells as the released guide's own fill.sh prints them over the translation b70050b846503808… (all of the seat's roots in one cut). By AI agents, Wed Nov 11 2026. No macro, syntax, notation, axiom, sorry.
-/
import Derived.Test.YtncmpjpmcliomaaChecked
import GoSem.Claim
import GoSem.ClaimJoined
import GoSem.ClaimMapViews
import Derived.JoinedTies
import Derived.KernelRfl
namespace Go.Proofs.Ytncmpjpmcliomaa
/- THE CELL 'sum', in the pinned program and in every row, IS THE sha256 OF THE DUMP (.gsa) THAT YtncmpjpmcliomaaProg.lean LOADS. Nothing in Lean hashes anything: it is a label: what it is worth is what the hold of that sum in a sandbox is worth. -/
noncomputable def Try.pinned : Pinned := { name := "ytncmpjpmcliomaa", sum := "b70050b84650380813ad90084b3e0a90122c8b7429f0f140c56eb0ae4d3a4214", checked := Try.checked }
namespace Rows
def none {H : Type} : Left H := { results := [], args := [] }

/-- 'perilunelaw31.DownlinkSends': WHATEVER THE INPUT: true; the input reads as it did. -/
def downlinkSendsSpec : ChangeSpec := { name := "downlinkSends", fn := fun _ => fun
  | [d] => { results := [.lit (.bool true)], args := [d] }
  | _ => none }
def downlinkSendsRow : OpenClaim := { program := "ytncmpjpmcliomaa", sum := "b70050b84650380813ad90084b3e0a90122c8b7429f0f140c56eb0ae4d3a4214", func := "perilune/perilunelaw31.DownlinkSends", spec := "downlinkSends", unfollowed := true, recurses := true, apart := false }
def DownlinkSendsSaid : Prop := downlinkSendsRow.holds Try.pinned (OpenSpec.ofChange downlinkSendsSpec)

/-- ITS FALSE NEIGHBOUR: 'it returns false'. Refute it at one input. -/
def downlinkSendsWrong : ChangeSpec := { name := "downlinkSends", fn := fun _ => fun
  | [d] => { results := [.lit (.bool false)], args := [d] }
  | _ => none }
def DownlinkSendsWrongFalsely : Prop := downlinkSendsRow.holds Try.pinned (OpenSpec.ofChange downlinkSendsWrong)

/-- 'perilunelaw31.DownlinkWords': WHATEVER THE INPUT: true; the input reads as it did. -/
def downlinkWordsSpec : ChangeSpec := { name := "downlinkWords", fn := fun _ => fun
  | [d] => { results := [.lit (.bool true)], args := [d] }
  | _ => none }
def downlinkWordsRow : OpenClaim := { program := "ytncmpjpmcliomaa", sum := "b70050b84650380813ad90084b3e0a90122c8b7429f0f140c56eb0ae4d3a4214", func := "perilune/perilunelaw31.DownlinkWords", spec := "downlinkWords", unfollowed := true, recurses := true, apart := false }
def DownlinkWordsSaid : Prop := downlinkWordsRow.holds Try.pinned (OpenSpec.ofChange downlinkWordsSpec)

/-- ITS FALSE NEIGHBOUR: 'it returns false'. Refute it at one input. -/
def downlinkWordsWrong : ChangeSpec := { name := "downlinkWords", fn := fun _ => fun
  | [d] => { results := [.lit (.bool false)], args := [d] }
  | _ => none }
def DownlinkWordsWrongFalsely : Prop := downlinkWordsRow.holds Try.pinned (OpenSpec.ofChange downlinkWordsWrong)

/-- 'perilunelaw31.DownlinkDecodes': WHATEVER THE INPUT: true; the input reads as it did. -/
def downlinkDecodesSpec : ChangeSpec := { name := "downlinkDecodes", fn := fun _ => fun
  | [d] => { results := [.lit (.bool true)], args := [d] }
  | _ => none }
def downlinkDecodesRow : OpenClaim := { program := "ytncmpjpmcliomaa", sum := "b70050b84650380813ad90084b3e0a90122c8b7429f0f140c56eb0ae4d3a4214", func := "perilune/perilunelaw31.DownlinkDecodes", spec := "downlinkDecodes", unfollowed := true, recurses := true, apart := false }
def DownlinkDecodesSaid : Prop := downlinkDecodesRow.holds Try.pinned (OpenSpec.ofChange downlinkDecodesSpec)

/-- ITS FALSE NEIGHBOUR: 'it returns false'. Refute it at one input. -/
def downlinkDecodesWrong : ChangeSpec := { name := "downlinkDecodes", fn := fun _ => fun
  | [d] => { results := [.lit (.bool false)], args := [d] }
  | _ => none }
def DownlinkDecodesWrongFalsely : Prop := downlinkDecodesRow.holds Try.pinned (OpenSpec.ofChange downlinkDecodesWrong)

/-- 'perilunelaw31.DownlinkRound': WHATEVER THE INPUT: true; the input reads as it did. -/
def downlinkRoundSpec : ChangeSpec := { name := "downlinkRound", fn := fun _ => fun
  | [d1, d2] => { results := [.lit (.bool true)], args := [d1, d2] }
  | _ => none }
def downlinkRoundRow : OpenClaim := { program := "ytncmpjpmcliomaa", sum := "b70050b84650380813ad90084b3e0a90122c8b7429f0f140c56eb0ae4d3a4214", func := "perilune/perilunelaw31.DownlinkRound", spec := "downlinkRound", unfollowed := true, recurses := true, apart := false }
def DownlinkRoundSaid : Prop := downlinkRoundRow.holds Try.pinned (OpenSpec.ofChange downlinkRoundSpec)

/-- ITS FALSE NEIGHBOUR: 'it returns false'. Refute it at one input. -/
def downlinkRoundWrong : ChangeSpec := { name := "downlinkRound", fn := fun _ => fun
  | [d1, d2] => { results := [.lit (.bool false)], args := [d1, d2] }
  | _ => none }
def DownlinkRoundWrongFalsely : Prop := downlinkRoundRow.holds Try.pinned (OpenSpec.ofChange downlinkRoundWrong)

/-- 'perilunelaw31.DownlinkDamage': WHATEVER THE INPUT: true; the input reads as it did. -/
def downlinkDamageSpec : ChangeSpec := { name := "downlinkDamage", fn := fun _ => fun
  | [d1, d2] => { results := [.lit (.bool true)], args := [d1, d2] }
  | _ => none }
def downlinkDamageRow : OpenClaim := { program := "ytncmpjpmcliomaa", sum := "b70050b84650380813ad90084b3e0a90122c8b7429f0f140c56eb0ae4d3a4214", func := "perilune/perilunelaw31.DownlinkDamage", spec := "downlinkDamage", unfollowed := true, recurses := true, apart := false }
def DownlinkDamageSaid : Prop := downlinkDamageRow.holds Try.pinned (OpenSpec.ofChange downlinkDamageSpec)

/-- ITS FALSE NEIGHBOUR: 'it returns false'. Refute it at one input. -/
def downlinkDamageWrong : ChangeSpec := { name := "downlinkDamage", fn := fun _ => fun
  | [d1, d2] => { results := [.lit (.bool false)], args := [d1, d2] }
  | _ => none }
def DownlinkDamageWrongFalsely : Prop := downlinkDamageRow.holds Try.pinned (OpenSpec.ofChange downlinkDamageWrong)

/-- 'perilunelaw31.DownlinkOnes': WHATEVER THE INPUT: true; the input reads as it did. -/
def downlinkOnesSpec : ChangeSpec := { name := "downlinkOnes", fn := fun _ => fun
  | [d1, d2] => { results := [.lit (.bool true)], args := [d1, d2] }
  | _ => none }
def downlinkOnesRow : OpenClaim := { program := "ytncmpjpmcliomaa", sum := "b70050b84650380813ad90084b3e0a90122c8b7429f0f140c56eb0ae4d3a4214", func := "perilune/perilunelaw31.DownlinkOnes", spec := "downlinkOnes", unfollowed := true, recurses := true, apart := false }
def DownlinkOnesSaid : Prop := downlinkOnesRow.holds Try.pinned (OpenSpec.ofChange downlinkOnesSpec)

/-- ITS FALSE NEIGHBOUR: 'it returns false'. Refute it at one input. -/
def downlinkOnesWrong : ChangeSpec := { name := "downlinkOnes", fn := fun _ => fun
  | [d1, d2] => { results := [.lit (.bool false)], args := [d1, d2] }
  | _ => none }
def DownlinkOnesWrongFalsely : Prop := downlinkOnesRow.holds Try.pinned (OpenSpec.ofChange downlinkOnesWrong)

/-- 'perilunelaw31.DownlinkKnown': WHATEVER THE INPUT: true; the input reads as it did. -/
def downlinkKnownSpec : ChangeSpec := { name := "downlinkKnown", fn := fun _ => fun
  | [] => { results := [.lit (.bool true)], args := [] }
  | _ => none }
def downlinkKnownRow : OpenClaim := { program := "ytncmpjpmcliomaa", sum := "b70050b84650380813ad90084b3e0a90122c8b7429f0f140c56eb0ae4d3a4214", func := "perilune/perilunelaw31.DownlinkKnown", spec := "downlinkKnown", unfollowed := true, recurses := true, apart := false }
def DownlinkKnownSaid : Prop := downlinkKnownRow.holds Try.pinned (OpenSpec.ofChange downlinkKnownSpec)

/-- ITS FALSE NEIGHBOUR: 'it returns false'. Refute it at one input. -/
def downlinkKnownWrong : ChangeSpec := { name := "downlinkKnown", fn := fun _ => fun
  | [] => { results := [.lit (.bool false)], args := [] }
  | _ => none }
def DownlinkKnownWrongFalsely : Prop := downlinkKnownRow.holds Try.pinned (OpenSpec.ofChange downlinkKnownWrong)

/-- 'perilunelaw31.DownlinkSteps': WHATEVER THE INPUT: true; the input reads as it did. -/
def downlinkStepsSpec : ChangeSpec := { name := "downlinkSteps", fn := fun _ => fun
  | [d1, d2] => { results := [.lit (.bool true)], args := [d1, d2] }
  | _ => none }
def downlinkStepsRow : OpenClaim := { program := "ytncmpjpmcliomaa", sum := "b70050b84650380813ad90084b3e0a90122c8b7429f0f140c56eb0ae4d3a4214", func := "perilune/perilunelaw31.DownlinkSteps", spec := "downlinkSteps", unfollowed := true, recurses := true, apart := false }
def DownlinkStepsSaid : Prop := downlinkStepsRow.holds Try.pinned (OpenSpec.ofChange downlinkStepsSpec)

/-- ITS FALSE NEIGHBOUR: 'it returns false'. Refute it at one input. -/
def downlinkStepsWrong : ChangeSpec := { name := "downlinkSteps", fn := fun _ => fun
  | [d1, d2] => { results := [.lit (.bool false)], args := [d1, d2] }
  | _ => none }
def DownlinkStepsWrongFalsely : Prop := downlinkStepsRow.holds Try.pinned (OpenSpec.ofChange downlinkStepsWrong)

/-- 'perilunelaw31.DownlinkGrows': WHATEVER THE INPUT: true; the input reads as it did. -/
def downlinkGrowsSpec : ChangeSpec := { name := "downlinkGrows", fn := fun _ => fun
  | [d] => { results := [.lit (.bool true)], args := [d] }
  | _ => none }
def downlinkGrowsRow : OpenClaim := { program := "ytncmpjpmcliomaa", sum := "b70050b84650380813ad90084b3e0a90122c8b7429f0f140c56eb0ae4d3a4214", func := "perilune/perilunelaw31.DownlinkGrows", spec := "downlinkGrows", unfollowed := true, recurses := true, apart := false }
def DownlinkGrowsSaid : Prop := downlinkGrowsRow.holds Try.pinned (OpenSpec.ofChange downlinkGrowsSpec)

/-- ITS FALSE NEIGHBOUR: 'it returns false'. Refute it at one input. -/
def downlinkGrowsWrong : ChangeSpec := { name := "downlinkGrows", fn := fun _ => fun
  | [d] => { results := [.lit (.bool false)], args := [d] }
  | _ => none }
def DownlinkGrowsWrongFalsely : Prop := downlinkGrowsRow.holds Try.pinned (OpenSpec.ofChange downlinkGrowsWrong)

/- THE SECOND FORM. 'bulk': how many values and letters a reading holds, each counted each time it is reached (what is shared counts as often as it is met; a slice's spare places count too). A statement '..UptoSaid' is the law's where the arguments, and the package variables that the reading takes, are together of bulk at most 1048576: NARROWER than '..Said'. Prove '..Said' where nothing that the law and all that it calls make is longer than what came in: it says more and counts as full. Else prove '..UptoSaid'. A law counts once. -/
mutual
def uptoBulk {H : Type} : DataW H → Nat
  | .lit (.string bytes) => bytes.length + 1
  | .lit _ => 1
  | .nil => 1
  | .ptr d => uptoBulk d + 1
  | .slice elems spare => uptoBulkAll elems + uptoBulkAll spare + 1
  | .agg parts => uptoBulkAll parts + 1
  | .iface _ d => uptoBulk d + 1
  | .map entries => uptoBulkEntries entries + 1
  | .held _ => 1
def uptoBulkAll {H : Type} : List (DataW H) → Nat
  | [] => 0
  | d :: r => uptoBulk d + uptoBulkAll r
def uptoBulkEntries {H : Type} : List (Lit × DataW H) → Nat
  | [] => 0
  | x :: r => uptoBulkEntry x + uptoBulkEntries r
def uptoBulkEntry {H : Type} : Lit × DataW H → Nat
  | (.string bytes, d) => bytes.length + uptoBulk d + 1
  | (_, d) => uptoBulk d + 1
 end
def uptoSmall : (H : Type) → List (DataW H) → Bool := fun _ ds => decide (uptoBulkAll ds ≤ 1048576)
def OpenSpec.upto (s : _root_.Go.ChangeSpec) : _root_.Go.OpenSpec := { _root_.Go.OpenSpec.ofChange s with cond := some uptoSmall }

/-- 'perilunelaw31.DownlinkSends', WHERE WHAT IT READS IS OF BULK AT MOST 1048576: true; the input reads as it did. -/
def downlinkSendsUptoRow : OpenClaim := { program := "ytncmpjpmcliomaa", sum := "b70050b84650380813ad90084b3e0a90122c8b7429f0f140c56eb0ae4d3a4214", func := "perilune/perilunelaw31.DownlinkSends", spec := "downlinkSends", unfollowed := true, recurses := true, apart := false, narrowed := true }
def DownlinkSendsUptoSaid : Prop := downlinkSendsUptoRow.holds Try.pinned (OpenSpec.upto downlinkSendsSpec)

/-- 'perilunelaw31.DownlinkWords', WHERE WHAT IT READS IS OF BULK AT MOST 1048576: true; the input reads as it did. -/
def downlinkWordsUptoRow : OpenClaim := { program := "ytncmpjpmcliomaa", sum := "b70050b84650380813ad90084b3e0a90122c8b7429f0f140c56eb0ae4d3a4214", func := "perilune/perilunelaw31.DownlinkWords", spec := "downlinkWords", unfollowed := true, recurses := true, apart := false, narrowed := true }
def DownlinkWordsUptoSaid : Prop := downlinkWordsUptoRow.holds Try.pinned (OpenSpec.upto downlinkWordsSpec)

/-- 'perilunelaw31.DownlinkDecodes', WHERE WHAT IT READS IS OF BULK AT MOST 1048576: true; the input reads as it did. -/
def downlinkDecodesUptoRow : OpenClaim := { program := "ytncmpjpmcliomaa", sum := "b70050b84650380813ad90084b3e0a90122c8b7429f0f140c56eb0ae4d3a4214", func := "perilune/perilunelaw31.DownlinkDecodes", spec := "downlinkDecodes", unfollowed := true, recurses := true, apart := false, narrowed := true }
def DownlinkDecodesUptoSaid : Prop := downlinkDecodesUptoRow.holds Try.pinned (OpenSpec.upto downlinkDecodesSpec)

/-- 'perilunelaw31.DownlinkRound', WHERE WHAT IT READS IS OF BULK AT MOST 1048576: true; the input reads as it did. -/
def downlinkRoundUptoRow : OpenClaim := { program := "ytncmpjpmcliomaa", sum := "b70050b84650380813ad90084b3e0a90122c8b7429f0f140c56eb0ae4d3a4214", func := "perilune/perilunelaw31.DownlinkRound", spec := "downlinkRound", unfollowed := true, recurses := true, apart := false, narrowed := true }
def DownlinkRoundUptoSaid : Prop := downlinkRoundUptoRow.holds Try.pinned (OpenSpec.upto downlinkRoundSpec)

/-- 'perilunelaw31.DownlinkDamage', WHERE WHAT IT READS IS OF BULK AT MOST 1048576: true; the input reads as it did. -/
def downlinkDamageUptoRow : OpenClaim := { program := "ytncmpjpmcliomaa", sum := "b70050b84650380813ad90084b3e0a90122c8b7429f0f140c56eb0ae4d3a4214", func := "perilune/perilunelaw31.DownlinkDamage", spec := "downlinkDamage", unfollowed := true, recurses := true, apart := false, narrowed := true }
def DownlinkDamageUptoSaid : Prop := downlinkDamageUptoRow.holds Try.pinned (OpenSpec.upto downlinkDamageSpec)

/-- 'perilunelaw31.DownlinkOnes', WHERE WHAT IT READS IS OF BULK AT MOST 1048576: true; the input reads as it did. -/
def downlinkOnesUptoRow : OpenClaim := { program := "ytncmpjpmcliomaa", sum := "b70050b84650380813ad90084b3e0a90122c8b7429f0f140c56eb0ae4d3a4214", func := "perilune/perilunelaw31.DownlinkOnes", spec := "downlinkOnes", unfollowed := true, recurses := true, apart := false, narrowed := true }
def DownlinkOnesUptoSaid : Prop := downlinkOnesUptoRow.holds Try.pinned (OpenSpec.upto downlinkOnesSpec)

/-- 'perilunelaw31.DownlinkKnown', WHERE WHAT IT READS IS OF BULK AT MOST 1048576: true; the input reads as it did. -/
def downlinkKnownUptoRow : OpenClaim := { program := "ytncmpjpmcliomaa", sum := "b70050b84650380813ad90084b3e0a90122c8b7429f0f140c56eb0ae4d3a4214", func := "perilune/perilunelaw31.DownlinkKnown", spec := "downlinkKnown", unfollowed := true, recurses := true, apart := false, narrowed := true }
def DownlinkKnownUptoSaid : Prop := downlinkKnownUptoRow.holds Try.pinned (OpenSpec.upto downlinkKnownSpec)

/-- 'perilunelaw31.DownlinkSteps', WHERE WHAT IT READS IS OF BULK AT MOST 1048576: true; the input reads as it did. -/
def downlinkStepsUptoRow : OpenClaim := { program := "ytncmpjpmcliomaa", sum := "b70050b84650380813ad90084b3e0a90122c8b7429f0f140c56eb0ae4d3a4214", func := "perilune/perilunelaw31.DownlinkSteps", spec := "downlinkSteps", unfollowed := true, recurses := true, apart := false, narrowed := true }
def DownlinkStepsUptoSaid : Prop := downlinkStepsUptoRow.holds Try.pinned (OpenSpec.upto downlinkStepsSpec)

/-- 'perilunelaw31.DownlinkGrows', WHERE WHAT IT READS IS OF BULK AT MOST 1048576: true; the input reads as it did. -/
def downlinkGrowsUptoRow : OpenClaim := { program := "ytncmpjpmcliomaa", sum := "b70050b84650380813ad90084b3e0a90122c8b7429f0f140c56eb0ae4d3a4214", func := "perilune/perilunelaw31.DownlinkGrows", spec := "downlinkGrows", unfollowed := true, recurses := true, apart := false, narrowed := true }
def DownlinkGrowsUptoSaid : Prop := downlinkGrowsUptoRow.holds Try.pinned (OpenSpec.upto downlinkGrowsSpec)

end Rows
end Go.Proofs.Ytncmpjpmcliomaa
