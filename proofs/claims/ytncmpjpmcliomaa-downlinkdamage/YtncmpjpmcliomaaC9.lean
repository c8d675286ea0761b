/- Whatever bits are lost, and with at most three bits inverted in each sequence of 40 words, exactly the whole lists are decoded: DownlinkDamage returns true and changes nothing; no conditions. -/
import Derived.Test.YtncmpjpmcliomaaC7
import Derived.Test.YtncmpjpmcliomaaX
namespace Go.Proofs.Ytncmpjpmcliomaa
open Go Go.AM Go.RowKit Go.ChangeShapes Go.WideShapes Go.ChangeAt
theorem rdHit : RdT Try.prog 49 2 (fun (x : Int × Bool) j => bif Nat.beq j 0 then .int .u16 x.1 else .bool x.2) (fun x => W x.1) :=
  (RdT.struct2 Try.underlying49 rfl rfl (by kernel_rfl) (by kernel_rfl) (by kernel_rfl) (RdT.int (k := .u16) Try.underlying22) (RdT.bool Try.underlying4)).congr (fun a j hj => by
    match j with
    | 0 => rfl
    | 1 => rfl) fun x h => wf16 h.1
theorem rdHits : RdT Try.prog 46 1 (fun (l : List (Int × Bool)) _ => hitsP l) (fun l => (∀ x ∈ l, W x.1) ∧ l.length ≤ 140737488355328) :=
  (RdT.slice Try.underlying46 (by kernel_rfl) (by decide) (0, false) rdHit).congr (fun _ _ _ => rfl) fun l h => ⟨h.1, by have := h.2; rw [show Try.prog.bytesOf 49 = 4 by kernel_rfl] at this; simp only [reachBytes] at this; omega⟩
theorem contract7 (H : Type) (enc : TypeId × Value → H) (W : World) (base : Nat) (args : Array Value) (ds gs : List (DataW H)) (before : List MemPlace)
    (hval : ∀ (j : Nat) t v, Try.f7.params[j]? = some t → args[j]? = some v → Value.okWide Try.prog W .any base t v)
    (hW : DataW.Whole enc Try.prog Try.f7.params.toList Rows.downlinkDamageSpec.vars false W args.toList ds gs before)
    (hsz : (DataW.weightsEach Try.prog (Try.f7.params.toList ++ Rows.downlinkDamageSpec.plain.varTypes Try.prog) (ds ++ gs)).all (· ≤ reachBytes) = true) :
    Calls Try.prog 7 args W fun e W' => ∃ v, e = .returned v ∧ Rows.downlinkDamageSpec.post enc Try.prog Try.f7 false true false false W args v W' := by
  have hW' := hW
  obtain ⟨p, q, hA0, hV, rfl, hfz, hnd⟩ := hW
  have hA : DataW.TrodAll enc Try.prog W 0 (fun _ => true) true Try.f7.params.toList args.toList ds p := hA0
  rw [Try.params7] at hA hval hsz
  obtain ⟨v0, vs0, d0, ds0, p0, q0, hargs, rfl, rfl, h0, r0⟩ := trodAll_cons hA
  obtain ⟨v1, vs1, d1, ds1, p1, q1, rfl, rfl, rfl, h1, r1⟩ := trodAll_cons r0
  obtain ⟨rfl, rfl, rfl⟩ := trodAll_nil r1
  obtain rfl : args = #[v0, v1] := by cases args; simp_all
  obtain ⟨hs0, hsz⟩ := weights_cons hsz
  obtain ⟨_, _, _, hv0⟩ := okWide_slice Try.underlying42 (hval 0 42 v0 rfl rfl)
  obtain ⟨l0, ⟨hL0, hm0⟩, ha0⟩ := rdOwns.arg1 (fun cs h => by rw [hv0] at h; cases h) h0 hs0
  obtain ⟨hs1, hsz⟩ := weights_cons hsz
  obtain ⟨_, _, _, hv1⟩ := okWide_slice Try.underlying46 (hval 1 46 v1 rfl rfl)
  obtain ⟨l1, ⟨hH1, hm1⟩, ha1⟩ := rdHits.arg1 (fun cs h => by rw [hv1] at h; cases h) h1 hs1
  exact law_calls (tb := 4) laid (by kernel_rfl) Try.underlying4 (by kernel_rfl) rfl hW' rfl [.pv (ownsP l0), .pv (hitsP l1)] (args_two (ha0 noNames) (ha1 noNames)) (f7 l0 l1 (by omega) hL0 (by omega) hH1)
set_option maxRecDepth 100000 in
theorem lifted7 (os : Os) (started : os.Started) (H : Type) (enc : TypeId × Value → H) :
    ReturnsInHanded {} Try.checked os 7 .any (Rows.downlinkDamageSpec.pre6 enc Try.prog Try.f7 Rows.downlinkDamageRow.domain false) (Rows.downlinkDamageSpec.post enc Try.prog Try.f7 false true false false) := by
  refine returnsInHanded_of_change_sized (C := Try.checked) own started (by kernel_rfl) Try.func7
    (ChangeSpec.witness6 (enc := enc) (C := Try.checked) false ⟨#[], #[.slice none 0 0, .slice none 0 0], []⟩ 8 (by kernel_rfl) (by kernel_rfl) (by kernel_rfl) (by kernel_rfl) (by kernel_rfl)) ?_
  intro W base args ds gs before hval hW _ hsz _
  exact contract7 H enc W base args ds gs before hval hW hsz
theorem DownlinkDamage_holds : Rows.DownlinkDamageSaid :=
  OpenClaim.holds_of_wide 7 Try.f7 rfl rfl rfl rfl rfl rfl rfl ⟨rfl, rfl, rfl, rfl, rfl⟩ rfl rfl rfl rfl rfl (by kernel_rfl) Try.func7 (by kernel_rfl)
    (of_decide_eq_true (by kernel_rfl)) (by unfold Func.isWrapper; first | (rw [if_pos (by decide +kernel)]; kernel_rfl) | (rw [if_neg (by decide +kernel)]; exact ⟨rfl, rfl⟩))
    (fun os started H enc _ => lifted7 os started H enc)
end Go.Proofs.Ytncmpjpmcliomaa
