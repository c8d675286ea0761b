/- What the second form's bound says of lengths. -/
import Derived.Test.YtioccpodnkllfaaV10
import Derived.Test.YtioccpodnkllfaaC0
import Derived.Deep.CondSized
namespace Go.Proofs.Ytioccpodnkllfaa
open Go Go.AM Go.RowKit Go.ChangeShapes Go.WideShapes Go.ChangeAt
theorem bulk_one {H : Type} (d : DataW H) : 1 ≤ Rows.uptoBulk d := by
  cases d with
  | lit l => cases l <;> simp [Rows.uptoBulk]
  | nil => simp [Rows.uptoBulk]
  | ptr d => simp [Rows.uptoBulk]
  | slice elems spare => simp [Rows.uptoBulk]
  | agg parts => simp [Rows.uptoBulk]
  | iface t d => simp [Rows.uptoBulk]
  | map entries => simp [Rows.uptoBulk]
  | held h => simp [Rows.uptoBulk]
theorem bulk_part {H : Type} {d : DataW H} {l : List (DataW H)} (h : d ∈ l) : Rows.uptoBulk d ≤ Rows.uptoBulkAll l := by
  induction l with
  | nil => cases h
  | cons x r ih =>
    simp only [Rows.uptoBulkAll]
    cases List.mem_cons.1 h with
    | inl e => subst e; omega
    | inr e => have := ih e; omega
theorem bulk_len {H : Type} (l : List (DataW H)) : l.length ≤ Rows.uptoBulkAll l := by
  induction l with
  | nil => simp [Rows.uptoBulkAll]
  | cons x r ih => have := bulk_one x; simp only [Rows.uptoBulkAll, List.length_cons]; omega
theorem bulk_slice {H : Type} {elems spare : List (DataW H)} {l : List (DataW H)} (hk : Rows.uptoSmall H l = true) (hm : DataW.slice elems spare ∈ l) : elems.length ≤ 1048576 := by
  have h1 : Rows.uptoBulkAll l ≤ 1048576 := of_decide_eq_true hk
  have h2 := bulk_part hm
  have h3 := bulk_len elems
  simp only [Rows.uptoBulk] at h2
  omega
theorem seq_small {P : Program} {t e : TypeId} (ht : P.underlying t = some (.slice e)) {H : Type} {enc : TypeId × Value → H} {w : World} {sp : Nat → Bool} {v : Value} {dd : DataW H} {ps : List MemPlace} {l : List (DataW H)} (hk : Rows.uptoSmall H l = true) (hd : DataW.Trod enc P w 0 sp true t v dd ps) (hm : dd ∈ l)
    {E sz n : Nat} {f : Nat → Nat → PV} (hr : ∀ φ, Ra φ w (oldB w) (.pv (.seq E sz n f)) v) : n ≤ 1048576 := by
  rcases seq_len ht hd hr with h | ⟨es, sp, rfl, h⟩
  · omega
  · have := bulk_slice hk hm; omega
theorem rdU32 : RdT Try.prog 54 1 (fun (n : Nat) _ => .int .u32 n) (fun n => n < 4294967296) :=
  RdT.map (RdT.int (k := .u32) Try.underlying54) Int.toNat (fun a j h _ => by
    simp only [Lit.wf, Bool.and_eq_true, decide_eq_true_eq] at h
    have h1 : 0 ≤ a := h.1
    rw [show ((a.toNat : Nat) : Int) = a by omega]) fun a h => by
    simp only [Lit.wf, Bool.and_eq_true, decide_eq_true_eq] at h
    have h1 : 0 ≤ a := h.1
    have h2 : a ≤ 4294967295 := h.2
    omega
end Go.Proofs.Ytioccpodnkllfaa
