/- What the laws' rows list, and what is read of their arguments. -/
import Derived.Test.YtolgdbekdkldjaaDoorV3
import Derived.Test.YtolgdbekdkldjaaDoorTie
import Derived.Test.YtolgdbekdkldjaaDoorCards
import Derived.JoinedOf
import Derived.SizedLaws
import Derived.LaidMore
import Derived.OpenShut
import Derived.WalkKit
namespace Go.Proofs.YtolgdbekdkldjaaDoor
open Go Go.AM Go.RowKit Go.ChangeShapes Go.WideShapes Go.ChangeAt
theorem own : ownKnob Tryd.prog.godebug = none := by kernel_rfl
theorem laidOut : laidOutB Tryd.prog = true := by kernel_rfl
def laidL : List (String × DataW Unit) := Rows.disasmOnesRow.laid
theorem gPow : Tryd.prog.globalNamed "internal/strconv.uint64pow10" = some 0 := by kernel_rfl
theorem tPow : (Tryd.prog.globals[0]?).map (·.type) = some 113 := by kernel_rfl
theorem pow_eq : (Rows.laid_internal_strconv_uint64pow10 : DataW Unit) = Lib.tabData .u64 Lib.pow10Tab := by kernel_rfl
theorem door_met (os : Os) (args : Array Value) : laidMetH Tryd.prog laidL ((World.doorLaid Tryd.prog 400 os).forCall (fun _ _ => 0) ⟨#[], args, []⟩).memory := by
  rw [MakeChecks.laidMetH_plain _ _ _ (by kernel_rfl)]
  exact laidMet_of_run' 8 (by kernel_rfl) (by kernel_rfl)
theorem env_of {W : World} (h : laidMetH Tryd.prog laidL W) : EnvM Tryd.prog W (oldB W) := by
  rw [MakeChecks.laidMetH_plain _ _ _ (by kernel_rfl)] at h
  obtain ⟨ps, ⟨_, _, _, _, _, _, _, _, _, _, ⟨_, _, _, _, _, _, _, _, _, _, ⟨g', t', cs, fuel, p, q, hg', ht', hvar, hd, _, _⟩, _⟩, _⟩, _⟩ := h
  intro g hg
  obtain rfl := Option.some.inj (hg'.symm.trans hg)
  obtain rfl := Option.some.inj (gPow.symm.trans hg')
  obtain rfl := Option.some.inj (tPow.symm.trans ht')
  have htab : Lib.TabIs Tryd.prog W "internal/strconv.uint64pow10" .u64 Lib.pow10Tab := by
    unfold Lib.TabIs
    rw [hvar]
    rw [pow_eq] at hd
    rw [← Lib.cells_of_tab (t := 113) (e := 106) (n := 20) Tryd.underlying113 Tryd.underlying106 (by kernel_rfl) (by kernel_rfl) hd]
  have hlt : 0 < W.heap.size := by
    unfold World.var? at hvar
    rw [hg'] at hvar
    simp only [Option.bind_some] at hvar
    rcases Nat.lt_or_ge 0 W.heap.size with h | h
    · exact h
    · rw [Array.getElem?_eq_none h] at hvar; simp at hvar
  exact ⟨hlt, hlt, htab⟩
theorem RdT.map {P : Program} {t : TypeId} {n : Nat} {α β : Type} {pv : α → Nat → PV} {pv' : β → Nat → PV} {ok : α → Prop} {ok' : β → Prop} (h : RdT P t n pv ok) (f : α → β) (hp : ∀ a j, ok a → j < n → pv a j = pv' (f a) j) (hk : ∀ a, ok a → ok' (f a)) : RdT P t n pv' ok' := by
  intro H enc w sp fuel cs x hx hwt
  obtain ⟨h1, a, h2, h3⟩ := h H enc w sp fuel cs x hx hwt
  exact ⟨h1, f a, hk a h2, fun j hj => ⟨(h3 j hj).1, by rw [← hp a j h2 hj]; exact (h3 j hj).2⟩⟩
theorem wf16 {a : Int} (h : (Lit.int .u16 a).wf = true) : 0 ≤ a ∧ a ≤ 65535 := by
  simp only [Lit.wf, Bool.and_eq_true, decide_eq_true_eq] at h
  exact h
theorem wf64 {a : Int} (h : (Lit.int .i64 a).wf = true) : inI64 a := by
  simp only [Lit.wf, Bool.and_eq_true, decide_eq_true_eq] at h
  exact h
theorem rdWord : RdT Tryd.prog 23 1 wcell (fun n => n < 65536) :=
  RdT.map (RdT.int (k := .u16) Tryd.underlying23) Int.toNat (fun a j h _ => by
    have := wf16 h
    unfold wcell
    rw [show ((a.toNat : Nat) : Int) = a by omega]) fun a h => by have := wf16 h; omega
theorem rdWords : RdT Tryd.prog 31 1 (fun ws _ => wordsP ws) (fun ws => ws.length < 2 ^ 46 ∧ ∀ w ∈ ws, w < 65536) :=
  (RdT.slice Tryd.underlying31 (by kernel_rfl) (by decide) 0 rdWord).congr (fun _ _ _ => rfl) fun l h => ⟨by have := h.2; rw [show Tryd.prog.bytesOf 23 = 2 by kernel_rfl] at this; simp only [reachBytes] at this; omega, h.1⟩
theorem rdBank : RdT Tryd.prog 33 2 BankR.p BankB :=
  RdT.map (RdT.struct2 Tryd.underlying33 rfl rfl (by kernel_rfl) (by kernel_rfl) (by kernel_rfl) (RdT.int (k := .i64) Tryd.underlying3) rdWords) (fun p => (⟨p.1, p.2⟩ : BankR)) (fun a j _ hj => match j, hj with
    | 0, _ => rfl
    | 1, _ => rfl) fun a h => ⟨wf64 h.1, h.2⟩
theorem rdBanks : RdT Tryd.prog 40 1 (fun l _ => banksP l) (fun l => l.length < 2 ^ 46 ∧ ∀ b ∈ l, BankB b) :=
  (RdT.slice Tryd.underlying40 (by kernel_rfl) (by decide) b0 rdBank).congr (fun _ _ _ => rfl) fun l h => ⟨by have := h.2; rw [show Tryd.prog.bytesOf 33 = 32 by kernel_rfl] at this; simp only [reachBytes] at this; omega, h.1⟩
theorem rdB : RdT Tryd.prog 4 1 (fun (a : Bool) _ => .bool a) (fun _ => True) := RdT.bool Tryd.underlying4
theorem ra_agg {φ : Names} {w : World} {M : Blocks} {n : Nat} {f g : Nat → AV} {x : Value} (h : ∀ i, i < n → f i = g i) (hr : Ra φ w M (.agg n f) x) : Ra φ w M (.agg n g) x := by
  cases hr with
  | agg _ _ cs h1 h2 h3 => exact .agg _ _ cs h1 h2 fun i hi => by rw [← h i hi]; exact h3 i hi
theorem ra_bank {φ : Names} {w : World} {M : Blocks} {b : BankR} {x : Value} (hr : Ra φ w M (.agg 2 fun j => .pv (BankR.p b j)) x) : Ra φ w M b.av x := by
  show Ra φ w M (.agg 2 b.c) x
  refine ra_agg (f := fun j => .pv (b.p j)) (g := b.c) ?_ hr
  intro i hi
  match i, hi with
  | 0, _ => rfl
  | 1, _ => rfl
end Go.Proofs.YtolgdbekdkldjaaDoor
