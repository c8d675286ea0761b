/- What is read of the laws' arguments. -/
import Derived.Test.YtioccpodnkllfaaV6
import Derived.Test.YtioccpodnkllfaaRows
import Derived.JoinedOf
import Derived.SizedLaws
import Derived.WalkKit
namespace Go.Proofs.Ytioccpodnkllfaa
open Go Go.AM Go.RowKit Go.ChangeShapes Go.WideShapes Go.ChangeAt
theorem own : ownKnob Try.prog.godebug = none := by kernel_rfl
theorem laid : laidOutB Try.prog = true := by kernel_rfl
theorem noPow : Try.prog.globalNamed "internal/strconv.uint64pow10" = none := by kernel_rfl
theorem env0 (W : World) : EnvM Try.prog W (oldB W) := fun g hg => by rw [noPow] at hg; cases hg
theorem RdT.map {P : Program} {t : TypeId} {n : Nat} {α β : Type} {pv : α → Nat → PV} {pv' : β → Nat → PV} {ok : α → Prop} {ok' : β → Prop} (h : RdT P t n pv ok) (f : α → β) (hp : ∀ a j, ok a → j < n → pv a j = pv' (f a) j) (hk : ∀ a, ok a → ok' (f a)) : RdT P t n pv' ok' := by
  intro H enc w sp fuel cs x hx hwt
  obtain ⟨h1, a, h2, h3⟩ := h H enc w sp fuel cs x hx hwt
  exact ⟨h1, f a, hk a h2, fun j hj => ⟨(h3 j hj).1, by rw [← hp a j h2 hj]; exact (h3 j hj).2⟩⟩
theorem wf16 {a : Int} (h : (Lit.int .u16 a).wf = true) : 0 ≤ a ∧ a ≤ 65535 := by
  simp only [Lit.wf, Bool.and_eq_true, decide_eq_true_eq] at h
  exact h
theorem wf8 {a : Int} (h : (Lit.int .u8 a).wf = true) : 0 ≤ a ∧ a ≤ 255 := by
  simp only [Lit.wf, Bool.and_eq_true, decide_eq_true_eq] at h
  exact h
theorem wf64 {a : Int} (h : (Lit.int .i64 a).wf = true) : inI64 a := by
  simp only [Lit.wf, Bool.and_eq_true, decide_eq_true_eq] at h
  exact h
theorem rdWord : RdT Try.prog 39 1 wcell (fun n => n < 65536) :=
  RdT.map (RdT.int (k := .u16) Try.underlying39) Int.toNat (fun a j h _ => by
    have := wf16 h
    unfold wcell
    rw [show ((a.toNat : Nat) : Int) = a by omega]) fun a h => by have := wf16 h; omega
theorem rdByte : RdT Try.prog 5 1 bcell (fun n => n < 256) :=
  RdT.map (RdT.int (k := .u8) Try.underlying5) Int.toNat (fun a j h _ => by
    have := wf8 h
    unfold bcell
    rw [show ((a.toNat : Nat) : Int) = a by omega]) fun a h => by have := wf8 h; omega
theorem rdWords : RdT Try.prog 33 1 (fun ws _ => wordsP ws) WB :=
  (RdT.slice Try.underlying33 (by kernel_rfl) (by decide) 0 rdWord).congr (fun _ _ _ => rfl) fun l h => ⟨by have := h.2; rw [show Try.prog.bytesOf 39 = 2 by kernel_rfl] at this; simp only [reachBytes] at this; omega, h.1⟩
theorem rdBytes : RdT Try.prog 42 1 (fun l _ => bytesP l) BtB :=
  (RdT.slice Try.underlying42 (by kernel_rfl) (by decide) 0 rdByte).congr (fun _ _ _ => rfl) fun l h => ⟨by have := h.2; rw [show Try.prog.bytesOf 5 = 1 by kernel_rfl] at this; simp only [reachBytes] at this; omega, h.1⟩
theorem rdBank : RdT Try.prog 35 2 BankR.p BankB :=
  RdT.map (RdT.struct2 Try.underlying35 rfl rfl (by kernel_rfl) (by kernel_rfl) (by kernel_rfl) (RdT.int (k := .i64) Try.underlying3) rdWords) (fun p => (⟨p.1, p.2⟩ : BankR)) (fun a j _ hj => match j, hj with
    | 0, _ => rfl
    | 1, _ => rfl) fun a h => ⟨wf64 h.1, h.2⟩
theorem rdBanks : RdT Try.prog 27 1 (fun l _ => banksP l) BsB :=
  (RdT.slice Try.underlying27 (by kernel_rfl) (by decide) b0 rdBank).congr (fun _ _ _ => rfl) fun l h => ⟨by have := h.2; rw [show Try.prog.bytesOf 35 = 32 by kernel_rfl] at this; simp only [reachBytes] at this; omega, h.1⟩
theorem ra_agg {φ : Names} {w : World} {M : Blocks} {n : Nat} {f g : Nat → AV} {x : Value} (h : ∀ i, i < n → f i = g i) (hr : Ra φ w M (.agg n f) x) : Ra φ w M (.agg n g) x := by
  cases hr with
  | agg _ _ cs h1 h2 h3 => exact .agg _ _ cs h1 h2 fun i hi => by rw [← h i hi]; exact h3 i hi
theorem ra_bank {φ : Names} {w : World} {M : Blocks} {b : BankR} {x : Value} (hr : Ra φ w M (.agg 2 fun j => .pv (BankR.p b j)) x) : Ra φ w M b.av x :=
  ra_agg (f := fun j => .pv (BankR.p b j)) (g := b.c) (fun i hi => match i, hi with
    | 0, _ => rfl
    | 1, _ => rfl) hr
end Go.Proofs.Ytioccpodnkllfaa
