/- What the laws' rows list, and what is read of their arguments. -/
import Derived.Test.YtkeecnoafjhhdaaGreatDoorTie
import Derived.Test.YtkeecnoafjhhdaaGreatDoorCards
import Derived.Test.YtkeecnoafjhhdaaGreatDoorA3
import Derived.Test.YtkeecnoafjhhdaaGreatDoorA2
import Derived.Test.YtkeecnoafjhhdaaGreatDoorV3
import Derived.JoinedOf
import Derived.SizedLaws
import Derived.LaidMore
import Derived.OpenShut
import Derived.WalkKit
namespace Go.Proofs.YtkeecnoafjhhdaaGreatDoor
open Go Go.AM Go.RowKit Go.ChangeShapes Go.WideShapes Go.ChangeAt
theorem own : ownKnob Tryz.prog.godebug = none := by kernel_rfl
theorem laidOut : laidOutB Tryz.prog = true := by kernel_rfl
def laidL : List (String × DataW Unit) := Rows.asmSymbolsRow.laid
theorem gPow : Tryz.prog.globalNamed "internal/strconv.uint64pow10" = some 1 := by kernel_rfl
theorem tPow : (Tryz.prog.globals[1]?).map (·.type) = some 252 := by kernel_rfl
theorem pow_eq : (Rows.laid_internal_strconv_uint64pow10 : DataW Unit) = Lib.tabData .u64 Lib.pow10Tab := by kernel_rfl
theorem door_met (os : Os) (args : Array Value) : laidMetH Tryz.prog laidL ((World.doorLaid Tryz.prog 400 os).forCall (fun _ _ => 0) ⟨#[], args, []⟩).memory := by
 rw [MakeChecks.laidMetH_plain _ _ _ (by kernel_rfl)]
 exact laidMet_of_run' 8 (by kernel_rfl) (by kernel_rfl)
theorem env_of {W : World} (h : laidMetH Tryz.prog laidL W) : EnvM Tryz.prog W (oldB W) := by
 rw [MakeChecks.laidMetH_plain _ _ _ (by kernel_rfl)] at h
 obtain ⟨ps, ⟨_, _, _, _, _, _, _, _, _, _, ⟨_, _, _, _, _, _, _, _, _, _, ⟨g', t', cs, fuel, p, q, hg', ht', hvar, hd, _, _⟩, _⟩, _⟩, _⟩ := h
 intro g hg
 obtain rfl := Option.some.inj (hg'.symm.trans hg)
 obtain rfl := Option.some.inj (gPow.symm.trans hg')
 obtain rfl := Option.some.inj (tPow.symm.trans ht')
 have htab : Lib.TabIs Tryz.prog W "internal/strconv.uint64pow10" .u64 Lib.pow10Tab := by
  unfold Lib.TabIs
  rw [hvar]
  rw [pow_eq] at hd
  rw [← Lib.cells_of_tab (t := 252) (e := 198) (n := 20) Tryz.underlying252 Tryz.underlying198 (by kernel_rfl) (by kernel_rfl) hd]
 have hlt : 1 < W.heap.size := by
  unfold World.var? at hvar
  rw [hg'] at hvar
  simp only [Option.bind_some] at hvar
  rcases Nat.lt_or_ge 1 W.heap.size with h | h
  ·exact h
  ·rw [Array.getElem?_eq_none h] at hvar; simp at hvar
 exact ⟨hlt, hlt, htab⟩
theorem RdT.map {P : Program} {t : TypeId} {n : Nat} {α β : Type} {pv : α → Nat → PV} {pv' : β → Nat → PV} {ok : α → Prop} {ok' : β → Prop} (h : RdT P t n pv ok) (f : α → β) (hp : ∀ a j, ok a → j < n → pv a j = pv' (f a) j) (hk : ∀ a, ok a → ok' (f a)) : RdT P t n pv' ok' := by
 intro H enc w sp fuel cs x hx hwt
 obtain ⟨h1, a, h2, h3⟩ := h H enc w sp fuel cs x hx hwt
 exact ⟨h1, f a, hk a h2, fun j hj => ⟨(h3 j hj).1, by rw [← hp a j h2 hj]; exact (h3 j hj).2⟩⟩
theorem wf64 {a : Int} (h : (Lit.int .i64 a).wf = true) : inI64 a := by
 simp only [Lit.wf, Bool.and_eq_true, decide_eq_true_eq] at h
 exact h
theorem rdStr : RdT Tryz.prog 9 1 (fun (l : List UInt8) _ => .str l) (fun l => l.length ≤ 140737488355328) :=
 (RdT.str Tryz.underlying9).congr (fun _ _ _ => rfl) fun l h => by simp only [reachBytes] at h; omega
theorem rdArg : RdT Tryz.prog 37 3 (fun (a : Int × List UInt8 × Int) => fun j => bif Nat.ble (j + 1) 1 then .int .u8 a.1 else bif Nat.ble (j + 1) 2 then .str a.2.1 else .int .i64 a.2.2) (fun a => a.2.1.length ≤ 140737488355328 ∧ inI64 a.2.2) :=
 (RdT.struct3 Tryz.underlying37 rfl rfl rfl (by kernel_rfl) (by kernel_rfl) (by kernel_rfl) (by kernel_rfl) (RdT.int (k := .u8) Tryz.underlying5) rdStr (RdT.int (k := .i64) Tryz.underlying3)).congr (fun _ _ _ => rfl) fun a h => ⟨h.2.1, wf64 h.2.2⟩
theorem rdLine : RdT Tryz.prog 40 5 Line.p LineB :=
 RdT.map (RdT.struct3 Tryz.underlying40 rfl rfl rfl (by kernel_rfl) (by kernel_rfl) (by kernel_rfl) (by kernel_rfl) rdStr rdStr rdArg) (fun p => (⟨p.1, p.2.1, ⟨p.2.2.1, p.2.2.2.1, p.2.2.2.2⟩⟩ : Line)) (fun a j _ hj => match j, hj with
  | 0, _ => rfl
  | 1, _ => rfl
  | 2, _ => rfl
  | 3, _ => rfl
  | 4, _ => rfl) fun p h => ⟨by have := h.1; dsimp only; omega, by have := h.2.1; dsimp only; omega, by have := h.2.2.1; dsimp only; omega, h.2.2.2⟩
theorem rdLines : RdT Tryz.prog 22 1 (fun l _ => linesP l) (fun l => l.length < 2 ^ 46 ∧ ∀ x ∈ l, LineB x) :=
 (RdT.slice Tryz.underlying22 (by kernel_rfl) (by decide) lz rdLine).congr (fun _ _ _ => rfl) fun l h => ⟨by have := h.2; rw [show Tryz.prog.bytesOf 40 = 64 by kernel_rfl] at this; simp only [reachBytes] at this; omega, h.1⟩
end Go.Proofs.YtkeecnoafjhhdaaGreatDoor
