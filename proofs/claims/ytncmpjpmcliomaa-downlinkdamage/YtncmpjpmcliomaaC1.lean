/- What is read of the downlink laws' arguments. -/
import Derived.Test.YtncmpjpmcliomaaRows
import Derived.Test.YtncmpjpmcliomaaA2
import Derived.Test.YtncmpjpmcliomaaX
import Derived.JoinedOf
import Derived.SizedLaws
import Derived.WalkKit
namespace Go.Proofs.Ytncmpjpmcliomaa
open Go Go.AM Go.RowKit Go.ChangeShapes Go.WideShapes Go.ChangeAt
theorem own : ownKnob Try.prog.godebug = none := by kernel_rfl
theorem laid : laidOutB Try.prog = true := by kernel_rfl
theorem bytes_W {k : IntKind} {l : List Int} {b : Int} (hk : k.min = 0 ∧ k.max = b - 1) (h : ∀ a ∈ l, (Lit.int k a).wf = true) : ∀ a ∈ l, 0 ≤ a ∧ a < b := fun a ha => by
  have := h a ha
  simp only [Lit.wf, Bool.and_eq_true, decide_eq_true_eq, hk.1, hk.2] at this
  omega
theorem rdBits : RdT Try.prog 30 1 (fun (l : List Int) _ => sb l) (fun l => (∀ a ∈ l, 0 ≤ a ∧ a < 256) ∧ l.length ≤ 140737488355328) :=
  (RdT.slice Try.underlying30 (by kernel_rfl) (by decide) 0 (RdT.int (k := .u8) Try.underlying5)).congr (fun _ _ _ => rfl) fun l h => ⟨bytes_W (by decide) h.1, by have := h.2; rw [show Try.prog.bytesOf 5 = 1 by kernel_rfl] at this; simp only [reachBytes] at this; omega⟩
theorem contract4 (H : Type) (enc : TypeId × Value → H) (W : World) (base : Nat) (args : Array Value) (ds gs : List (DataW H)) (before : List MemPlace)
    (hval : ∀ (j : Nat) t v, Try.f4.params[j]? = some t → args[j]? = some v → Value.okWide Try.prog W .any base t v)
    (hW : DataW.Whole enc Try.prog Try.f4.params.toList Rows.downlinkWordsSpec.vars false W args.toList ds gs before)
    (hsz : (DataW.weightsEach Try.prog (Try.f4.params.toList ++ Rows.downlinkWordsSpec.plain.varTypes Try.prog) (ds ++ gs)).all (· ≤ reachBytes) = true) :
    Calls Try.prog 4 args W fun e W' => ∃ v, e = .returned v ∧ Rows.downlinkWordsSpec.post enc Try.prog Try.f4 false true false false W args v W' := by
  have hW' := hW
  obtain ⟨p, q, hA0, hV, rfl, hfz, hnd⟩ := hW
  have hA : DataW.TrodAll enc Try.prog W 0 (fun _ => true) true Try.f4.params.toList args.toList ds p := hA0
  rw [Try.params4] at hA hval hsz
  obtain ⟨v0, vs0, d0, ds0, p0, q0, hargs, rfl, rfl, h0, r0⟩ := trodAll_cons hA
  obtain ⟨rfl, rfl, rfl⟩ := trodAll_nil r0
  obtain rfl : args = #[v0] := by cases args; simp_all
  obtain ⟨hs0, hsz⟩ := weights_cons hsz
  obtain ⟨_, _, _, hv0⟩ := okWide_slice Try.underlying30 (hval 0 30 v0 rfl rfl)
  obtain ⟨l, ⟨hl, hm⟩, ha⟩ := rdBits.arg1 (fun cs h => by rw [hv0] at h; cases h) h0 hs0
  exact law_calls (tb := 4) laid (by kernel_rfl) Try.underlying4 (by kernel_rfl) rfl hW' rfl [_] (args_one (ha noNames)) (f4 l (by omega) hl)
set_option maxRecDepth 100000 in
theorem lifted4 (os : Os) (started : os.Started) (H : Type) (enc : TypeId × Value → H) :
    ReturnsInHanded {} Try.checked os 4 .any (Rows.downlinkWordsSpec.pre6 enc Try.prog Try.f4 Rows.downlinkWordsRow.domain false) (Rows.downlinkWordsSpec.post enc Try.prog Try.f4 false true false false) := by
  refine returnsInHanded_of_change_sized (C := Try.checked) own started (by kernel_rfl) Try.func4
    (ChangeSpec.witness6 (enc := enc) (C := Try.checked) false ⟨#[], #[.slice none 0 0], []⟩ 8 (by kernel_rfl) (by kernel_rfl) (by kernel_rfl) (by kernel_rfl) (by kernel_rfl)) ?_
  intro W base args ds gs before hval hW _ hsz _
  exact contract4 H enc W base args ds gs before hval hW hsz
theorem DownlinkWords_holds : Rows.DownlinkWordsSaid :=
  OpenClaim.holds_of_wide 4 Try.f4 rfl rfl rfl rfl rfl rfl rfl ⟨rfl, rfl, rfl, rfl, rfl⟩ rfl rfl rfl rfl rfl (by kernel_rfl) Try.func4 (by kernel_rfl)
    (of_decide_eq_true (by kernel_rfl)) (by unfold Func.isWrapper; first | (rw [if_pos (by decide +kernel)]; kernel_rfl) | (rw [if_neg (by decide +kernel)]; exact ⟨rfl, rfl⟩))
    (fun os started H enc _ => lifted4 os started H enc)
end Go.Proofs.Ytncmpjpmcliomaa
