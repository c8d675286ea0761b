/- What is read of an object. -/
import Derived.Test.YtioccpodnkllfaaV6
import Derived.Test.YtioccpodnkllfaaC0
namespace Go.Proofs.Ytioccpodnkllfaa
open Go Go.AM Go.RowKit Go.ChangeShapes Go.WideShapes Go.ChangeAt
theorem rdCell : RdT Try.prog 65 2 cellP (fun c => inI64 c.1 ∧ c.2 < 65536) :=
  RdT.map (RdT.struct2 Try.underlying65 rfl rfl (by kernel_rfl) (by kernel_rfl) (by kernel_rfl) (RdT.int (k := .i64) Try.underlying3) rdWord) (fun p => (p.1, p.2)) (fun a j _ hj => match j, hj with
    | 0, _ => rfl
    | 1, _ => rfl) fun a h => ⟨wf64 h.1, h.2⟩
theorem rdCells : RdT Try.prog 22 1 (fun l _ => cellsP l) CellsOk :=
  (RdT.slice Try.underlying22 (by kernel_rfl) (by decide) (0, 0) rdCell).congr (fun _ _ _ => rfl) fun l h => ⟨by have := h.2; rw [show Try.prog.bytesOf 65 = 16 by kernel_rfl] at this; simp only [reachBytes] at this; omega, h.1⟩
def symP (a : List UInt8 × Int × Int) (j : Nat) : PV := match j with | 0 => .str a.1 | 1 => .int .u8 a.2.1 | _ => .int .i64 a.2.2
theorem rdSym : RdT Try.prog 144 3 symP (fun _ => True) :=
  RdT.map (RdT.struct3 Try.underlying144 rfl rfl rfl (by kernel_rfl) (by kernel_rfl) (by kernel_rfl) (by kernel_rfl) (RdT.str Try.underlying9) (RdT.int (k := .u8) Try.underlying142) (RdT.int (k := .i64) Try.underlying3)) (fun p => (p.1, p.2.1, p.2.2)) (fun a j _ hj => match j, hj with
    | 0, _ => rfl
    | 1, _ => rfl
    | 2, _ => rfl) fun _ _ => trivial
def symsP (l : List (List UInt8 × Int × Int)) : PV := .seq 144 3 l.length fun i j => symP (l.getD i ([], 0, 0)) j
theorem rdSyms : RdT Try.prog 23 1 (fun l _ => symsP l) (fun _ => True) :=
  (RdT.slice Try.underlying23 (by kernel_rfl) (by decide) ([], 0, 0) rdSym).congr (fun _ _ _ => rfl) fun _ _ => trivial
def objP (p : List (Int × Nat) × List (List UInt8 × Int × Int)) (j : Nat) : PV := match j with | 0 => cellsP p.1 | _ => symsP p.2
theorem rdObj : RdT Try.prog 25 2 objP (fun p => CellsOk p.1) :=
  RdT.map (RdT.struct2 Try.underlying25 rfl rfl (by kernel_rfl) (by kernel_rfl) (by kernel_rfl) rdCells rdSyms) (fun p => (p.1, p.2)) (fun a j _ hj => match j, hj with
    | 0, _ => rfl
    | 1, _ => rfl) fun _ h => h.1
def objE (p : List (Int × Nat) × List (List UInt8 × Int × Int)) : AV := objA p.1 144 3 p.2.length fun i j => symP (p.2.getD i ([], 0, 0)) j
theorem f3' (p : List (Int × Nat) × List (List UInt8 × Int × Int)) (h : CellsOk p.1) : PureCall Try.prog 3 [objE p] (bb true) := f3 p.1 h 144 3 p.2.length _
theorem ra_obj {φ : Names} {w : World} {M : Blocks} {p : List (Int × Nat) × List (List UInt8 × Int × Int)} {x : Value} (hr : Ra φ w M (.agg 2 fun j => .pv (objP p j)) x) : Ra φ w M (objE p) x :=
  ra_agg (f := fun j => .pv (objP p j)) (g := getL [.pv (cellsP p.1), .pv (symsP p.2)]) (fun i hi => match i, hi with
    | 0, _ => rfl
    | 1, _ => rfl) hr
end Go.Proofs.Ytioccpodnkllfaa
