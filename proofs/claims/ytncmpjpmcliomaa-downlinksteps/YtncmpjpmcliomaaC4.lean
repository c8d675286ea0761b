/- For every state and bit, downlink.Step and the reference answer alike: DownlinkSteps returns true and changes nothing; no conditions. -/
import Derived.Test.YtncmpjpmcliomaaC2
import Derived.Test.YtncmpjpmcliomaaV
namespace Go.Proofs.Ytncmpjpmcliomaa
open Go Go.AM Go.RowKit Go.ChangeShapes Go.WideShapes Go.ChangeAt
theorem rdState : RdT Try.prog 61 2 (fun (p : List Int × List Int) k => bif Nat.beq k 0 then sb p.1 else sw p.2) (fun p => ((∀ a ∈ p.1, 0 ≤ a ∧ a < 256) ∧ p.1.length ≤ 140737488355328) ∧ (∀ a ∈ p.2, W a) ∧ p.2.length ≤ 140737488355328) :=
  (RdT.struct2 Try.underlying61 rfl rfl (by kernel_rfl) (by kernel_rfl) (by kernel_rfl) rdBits rdWords).congr (fun a j hj => by
    match j with
    | 0 => rfl
    | 1 => rfl) fun _ h => h
theorem rdU8 : RdT Try.prog 5 1 (fun (a : Int) _ => .int .u8 a) (fun a => 0 ≤ a ∧ a < 256) :=
  (RdT.int (k := .u8) Try.underlying5).congr (fun _ _ _ => rfl) fun x h => bytes_W (k := .u8) (l := [x]) (by decide) (fun a ha => by rw [List.mem_singleton.mp ha]; exact h) x (List.mem_singleton.mpr rfl)
theorem contract10 (H : Type) (enc : TypeId × Value → H) (W : World) (base : Nat) (args : Array Value) (ds gs : List (DataW H)) (before : List MemPlace)
    (hval : ∀ (j : Nat) t v, Try.f10.params[j]? = some t → args[j]? = some v → Value.okWide Try.prog W .any base t v)
    (hW : DataW.Whole enc Try.prog Try.f10.params.toList Rows.downlinkStepsSpec.vars false W args.toList ds gs before)
    (hsz : (DataW.weightsEach Try.prog (Try.f10.params.toList ++ Rows.downlinkStepsSpec.plain.varTypes Try.prog) (ds ++ gs)).all (· ≤ reachBytes) = true) :
    Calls Try.prog 10 args W fun e W' => ∃ v, e = .returned v ∧ Rows.downlinkStepsSpec.post enc Try.prog Try.f10 false true false false W args v W' := by
  have hW' := hW
  obtain ⟨p, q, hA0, hV, rfl, hfz, hnd⟩ := hW
  have hA : DataW.TrodAll enc Try.prog W 0 (fun _ => true) true Try.f10.params.toList args.toList ds p := hA0
  rw [Try.params10] at hA hval hsz
  obtain ⟨v0, vs0, d0, ds0, p0, q0, hargs, rfl, rfl, h0, r0⟩ := trodAll_cons hA
  obtain ⟨v1, vs1, d1, ds1, p1, q1, rfl, rfl, rfl, h1, r1⟩ := trodAll_cons r0
  obtain ⟨rfl, rfl, rfl⟩ := trodAll_nil r1
  obtain rfl : args = #[v0, v1] := by cases args; simp_all
  obtain ⟨hs0, hsz⟩ := weights_cons hsz
  obtain ⟨_, hv0, _⟩ := okWide_struct Try.underlying61 (hval 0 61 v0 rfl rfl)
  obtain ⟨l0, ⟨⟨hb0, hm0⟩, hw0, hn0⟩, ha0⟩ := rdState.argN ⟨_, hv0⟩ h0 hs0
  obtain ⟨hs1, hsz⟩ := weights_cons hsz
  obtain ⟨_, hv1⟩ := okWide_int Try.underlying5 (hval 1 5 v1 rfl rfl)
  obtain ⟨l1, hx1, ha1⟩ := rdU8.arg1 (fun cs h => by rw [hv1] at h; cases h) h1 hs1
  exact law_calls (tb := 4) laid (by kernel_rfl) Try.underlying4 (by kernel_rfl) rfl hW' rfl [stP l0, u8 l1] (args_two (ha0 noNames) (ha1 noNames)) (f10 l0.1 l0.2 l1 hx1 hb0 hw0 (by omega) (by omega))
set_option maxRecDepth 100000 in
theorem lifted10 (os : Os) (started : os.Started) (H : Type) (enc : TypeId × Value → H) :
    ReturnsInHanded {} Try.checked os 10 .any (Rows.downlinkStepsSpec.pre6 enc Try.prog Try.f10 Rows.downlinkStepsRow.domain false) (Rows.downlinkStepsSpec.post enc Try.prog Try.f10 false true false false) := by
  refine returnsInHanded_of_change_sized (C := Try.checked) own started (by kernel_rfl) Try.func10
    (ChangeSpec.witness6 (enc := enc) (C := Try.checked) false ⟨#[], #[.agg #[.slice none 0 0, .slice none 0 0], .int .u8 0], []⟩ 8 (by kernel_rfl) (by kernel_rfl) (by kernel_rfl) (by kernel_rfl) (by kernel_rfl)) ?_
  intro W base args ds gs before hval hW _ hsz _
  exact contract10 H enc W base args ds gs before hval hW hsz
theorem DownlinkSteps_holds : Rows.DownlinkStepsSaid :=
  OpenClaim.holds_of_wide 10 Try.f10 rfl rfl rfl rfl rfl rfl rfl ⟨rfl, rfl, rfl, rfl, rfl⟩ rfl rfl rfl rfl rfl (by kernel_rfl) Try.func10 (by kernel_rfl)
    (of_decide_eq_true (by kernel_rfl)) (by unfold Func.isWrapper; first | (rw [if_pos (by decide +kernel)]; kernel_rfl) | (rw [if_neg (by decide +kernel)]; exact ⟨rfl, rfl⟩))
    (fun os started H enc _ => lifted10 os started H enc)
end Go.Proofs.Ytncmpjpmcliomaa
