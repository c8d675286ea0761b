/- What is read of a pair of places of bits. -/
import Derived.Test.YtioccpodnkllfaaV11
import Derived.Test.YtioccpodnkllfaaU0
namespace Go.Proofs.Ytioccpodnkllfaa
open Go Go.AM Go.RowKit Go.ChangeShapes Go.WideShapes Go.ChangeAt
theorem rdW16 : RdT Try.prog 38 1 wcell (fun n => n < 65536) :=
  RdT.map (RdT.int (k := .u16) Try.underlying38) Int.toNat (fun a j h _ => by
    have := wf16 h
    unfold wcell
    rw [show ((a.toNat : Nat) : Int) = a by omega]) fun a h => by have := wf16 h; omega
theorem rdBits : RdT Try.prog 57 4 (fun (p : Nat × Nat × Nat × Nat) j => match j with | 0 => wcell p.1 0 | 1 => wcell p.2.1 0 | 2 => bcell p.2.2.1 0 | _ => bcell p.2.2.2 0) (fun p => p.1 < 65536 ∧ p.2.1 < 65536 ∧ p.2.2.1 < 256 ∧ p.2.2.2 < 256) :=
  RdT.struct4 Try.underlying57 rfl rfl rfl rfl (by kernel_rfl) (by kernel_rfl) (by kernel_rfl) (by kernel_rfl) (by kernel_rfl) rdW16 rdW16 rdByte rdByte
theorem ra_bits {φ : Names} {w : World} {M : Blocks} {p : Nat × Nat × Nat × Nat} {x : Value} (hr : Ra φ w M (.agg 4 fun j => .pv (match j with | 0 => wcell p.1 0 | 1 => wcell p.2.1 0 | 2 => bcell p.2.2.1 0 | _ => bcell p.2.2.2 0)) x) : Ra φ w M (.agg 4 (p4L p.1 p.2.1 p.2.2.1 p.2.2.2)) x :=
  ra_agg (f := fun j => .pv (match j with | 0 => wcell p.1 0 | 1 => wcell p.2.1 0 | 2 => bcell p.2.2.1 0 | _ => bcell p.2.2.2 0)) (g := p4L p.1 p.2.1 p.2.2.1 p.2.2.2) (fun i hi => match i, hi with
    | 0, _ => rfl
    | 1, _ => rfl
    | 2, _ => rfl
    | 3, _ => rfl) hr
end Go.Proofs.Ytioccpodnkllfaa
