/- What the laws' rows list, and what is read of their arguments. -/
import Derived.Test.YtdoeiccibhabcaaDoorTie
import Derived.Test.YtdoeiccibhabcaaDoorCards
import Derived.Test.YtdoeiccibhabcaaDoorA2
import Derived.Test.YtdoeiccibhabcaaDoorV4
import Derived.JoinedOf
import Derived.SizedLaws
import Derived.LaidMore
import Derived.OpenShut
import Derived.WalkKit
namespace Go.Proofs.YtdoeiccibhabcaaDoor
open Go Go.AM Go.RowKit Go.ChangeShapes Go.WideShapes Go.ChangeAt
theorem own : ownKnob Tryd.prog.godebug = none := by kernel_rfl
theorem laidOut : laidOutB Tryd.prog = true := by kernel_rfl
def laidL : List (String × DataW Unit) := Rows.tokenNumbersRow.laid
theorem gPow : Tryd.prog.globalNamed "internal/strconv.uint64pow10" = some 1 := by kernel_rfl
theorem tPow : (Tryd.prog.globals[1]?).map (·.type) = some 87 := by kernel_rfl
theorem pow_eq : (Rows.laid_internal_strconv_uint64pow10 : DataW Unit) = Lib.tabData .u64 Lib.pow10Tab := by kernel_rfl
theorem door_met (os : Os) (args : Array Value) : laidMetH Tryd.prog laidL ((World.doorLaid Tryd.prog 400 os).forCall (fun _ _ => 0) ⟨#[], args, []⟩).memory := by
  rw [MakeChecks.laidMetH_plain _ _ _ (by kernel_rfl)]
  exact laidMet_of_run' 8 (by kernel_rfl) (by kernel_rfl)
theorem env_of {W : World} (h : laidMetH Tryd.prog laidL W) : EnvM Tryd.prog W (oldB W) := by
  rw [MakeChecks.laidMetH_plain _ _ _ (by kernel_rfl)] at h
  obtain ⟨ps, ⟨_, _, _, _, _, _, _, _, _, _, ⟨_, _, _, _, _, _, _, _, _, _, ⟨g', t', cs, fuel, p, q, hg', ht', hvar, hd, _, _⟩, _⟩, _⟩, _⟩ := h
  intro g hg
  obtain rfl := Option.some.inj (hg'.symm.trans hg)
  obtain rfl := Option.some.inj (gPow.symm.trans hg')
  obtain rfl := Option.some.inj (tPow.symm.trans ht')
  have htab : Lib.TabIs Tryd.prog W "internal/strconv.uint64pow10" .u64 Lib.pow10Tab := by
    unfold Lib.TabIs
    rw [hvar]
    rw [pow_eq] at hd
    rw [← Lib.cells_of_tab (t := 87) (e := 81) (n := 20) Tryd.underlying87 Tryd.underlying81 (by kernel_rfl) (by kernel_rfl) hd]
  have hlt : 1 < W.heap.size := by
    unfold World.var? at hvar
    rw [hg'] at hvar
    simp only [Option.bind_some] at hvar
    rcases Nat.lt_or_ge 1 W.heap.size with h | h
    · exact h
    · rw [Array.getElem?_eq_none h] at hvar; simp at hvar
  exact ⟨hlt, hlt, htab⟩
theorem rdStr : RdT Tryd.prog 9 1 (fun (l : List UInt8) _ => .str l) (fun l => l.length ≤ 140737488355328) :=
  (RdT.str Tryd.underlying9).congr (fun _ _ _ => rfl) fun l h => by simp only [reachBytes] at h; omega
end Go.Proofs.YtdoeiccibhabcaaDoor
