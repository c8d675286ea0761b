/- The law on Words and Send. -/
import Derived.Test.YtncmpjpmcliomaaC1
namespace Go.Proofs.Ytncmpjpmcliomaa
open Go Go.AM Go.RowKit Go.ChangeShapes Go.WideShapes Go.ChangeAt
theorem rdWords : RdT Try.prog 24 1 (fun (l : List Int) _ => sw l) (fun l => (∀ a ∈ l, W a) ∧ l.length ≤ 140737488355328) :=
  (RdT.slice Try.underlying24 (by kernel_rfl) (by decide) 0 (RdT.int (k := .u16) Try.underlying23)).congr (fun _ _ _ => rfl) fun l h => ⟨bytes_W (by decide) h.1, by have := h.2; rw [show Try.prog.bytesOf 23 = 2 by kernel_rfl] at this; simp only [reachBytes] at this; omega⟩
theorem rdList : RdT Try.prog 26 2 cellP (fun x => W x.1 ∧ (∀ a ∈ x.2, W a) ∧ x.2.length ≤ 140737488355328) :=
  (RdT.struct2 Try.underlying26 rfl rfl (by kernel_rfl) (by kernel_rfl) (by kernel_rfl) (RdT.int (k := .u16) Try.underlying23) rdWords).congr (fun a j hj => by
    match j with
    | 0 => rfl
    | 1 => rfl) fun x h => ⟨bytes_W (k := .u16) (l := [x.1]) (by decide) (fun a ha => by rw [List.mem_singleton.mp ha]; exact h.1) x.1 (List.mem_singleton.mpr rfl), h.2⟩
theorem contract3 (H : Type) (enc : TypeId × Value → H) (W : World) (base : Nat) (args : Array Value) (ds gs : List (DataW H)) (before : List MemPlace)
    (hval : ∀ (j : Nat) t v, Try.f3.params[j]? = some t → args[j]? = some v → Value.okWide Try.prog W .any base t v)
    (hW : DataW.Whole enc Try.prog Try.f3.params.toList Rows.downlinkSendsSpec.vars false W args.toList ds gs before)
    (hsz : (DataW.weightsEach Try.prog (Try.f3.params.toList ++ Rows.downlinkSendsSpec.plain.varTypes Try.prog) (ds ++ gs)).all (· ≤ reachBytes) = true) :
    Calls Try.prog 3 args W fun e W' => ∃ v, e = .returned v ∧ Rows.downlinkSendsSpec.post enc Try.prog Try.f3 false true false false W args v W' := by
  have hW' := hW
  obtain ⟨p, q, hA0, hV, rfl, hfz, hnd⟩ := hW
  have hA : DataW.TrodAll enc Try.prog W 0 (fun _ => true) true Try.f3.params.toList args.toList ds p := hA0
  rw [Try.params3] at hA hval hsz
  obtain ⟨v0, vs0, d0, ds0, p0, q0, hargs, rfl, rfl, h0, r0⟩ := trodAll_cons hA
  obtain ⟨rfl, rfl, rfl⟩ := trodAll_nil r0
  obtain rfl : args = #[v0] := by cases args; simp_all
  obtain ⟨hs0, hsz⟩ := weights_cons hsz
  obtain ⟨_, hv0, _⟩ := okWide_struct Try.underlying26 (hval 0 26 v0 rfl rfl)
  obtain ⟨l, ⟨hi, hl, hm⟩, ha⟩ := rdList.argN ⟨_, hv0⟩ h0 hs0
  exact law_calls (tb := 4) laid (by kernel_rfl) Try.underlying4 (by kernel_rfl) rfl hW' rfl [listV l.1 l.2] (args_one (ha noNames)) (f3 l.1 l.2 hi hl (by omega))
set_option maxRecDepth 100000 in
theorem lifted3 (os : Os) (started : os.Started) (H : Type) (enc : TypeId × Value → H) :
    ReturnsInHanded {} Try.checked os 3 .any (Rows.downlinkSendsSpec.pre6 enc Try.prog Try.f3 Rows.downlinkSendsRow.domain false) (Rows.downlinkSendsSpec.post enc Try.prog Try.f3 false true false false) := by
  refine returnsInHanded_of_change_sized (C := Try.checked) own started (by kernel_rfl) Try.func3
    (ChangeSpec.witness6 (enc := enc) (C := Try.checked) false ⟨#[], #[.agg #[.int .u16 0, .slice none 0 0]], []⟩ 8 (by kernel_rfl) (by kernel_rfl) (by kernel_rfl) (by kernel_rfl) (by kernel_rfl)) ?_
  intro W base args ds gs before hval hW _ hsz _
  exact contract3 H enc W base args ds gs before hval hW hsz
theorem DownlinkSends_holds : Rows.DownlinkSendsSaid :=
  OpenClaim.holds_of_wide 3 Try.f3 rfl rfl rfl rfl rfl rfl rfl ⟨rfl, rfl, rfl, rfl, rfl⟩ rfl rfl rfl rfl rfl (by kernel_rfl) Try.func3 (by kernel_rfl)
    (of_decide_eq_true (by kernel_rfl)) (by unfold Func.isWrapper; first | (rw [if_pos (by decide +kernel)]; kernel_rfl) | (rw [if_neg (by decide +kernel)]; exact ⟨rfl, rfl⟩))
    (fun os started H enc _ => lifted3 os started H enc)
end Go.Proofs.Ytncmpjpmcliomaa
