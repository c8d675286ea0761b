/- The law DownlinkOnes. -/
import Derived.Test.YtncmpjpmcliomaaC1
import Derived.Test.YtncmpjpmcliomaaX
namespace Go.Proofs.Ytncmpjpmcliomaa
open Go Go.AM Go.RowKit Go.ChangeShapes Go.WideShapes Go.ChangeAt
theorem wf16 {a : Int} (h : (Lit.int .u16 a).wf = true) : W a := bytes_W (k := .u16) (l := [a]) (by decide) (fun y hy => by rw [List.mem_singleton.mp hy]; exact h) a (List.mem_singleton.mpr rfl)
theorem wf8 {a : Int} (h : (Lit.int .u8 a).wf = true) : 0 ≤ a ∧ a < 256 := bytes_W (k := .u8) (l := [a]) (by decide) (fun y hy => by rw [List.mem_singleton.mp hy]; exact h) a (List.mem_singleton.mpr rfl)
theorem rdOwn : RdT Try.prog 54 19 (fun (x : Int × List Int) j => .int .u16 (bif Nat.beq j 0 then x.1 else x.2.getD (j - 1) 0)) (fun x => W x.1 ∧ x.2.length = 18 ∧ ∀ y ∈ x.2, W y) :=
  (RdT.struct2 (n1 := 18) Try.underlying54 rfl rfl (by kernel_rfl) (by kernel_rfl) (by kernel_rfl) (RdT.int (k := .u16) Try.underlying22) (RdT.array (k := 18) (n := 1) Try.underlying52 (by kernel_rfl) (by kernel_rfl) 0 (RdT.int (k := .u16) Try.underlying22))).congr (fun a j hj => by
    match j with
    | 0 => rfl
    | j + 1 =>
      show PV.int .u16 (a.2.getD ((j + 1 - 1) / 1) 0) = PV.int .u16 (a.2.getD (j + 1 - 1) 0)
      rw [Nat.div_one]) fun x h => ⟨wf16 h.1, h.2.1, fun y hy => wf16 (h.2.2 y hy)⟩
theorem rdSpot : RdT Try.prog 56 3 (fun (x : Int × Int × Bool) j => bif Nat.beq j 2 then .bool x.2.2 else .int .u8 (bif Nat.beq j 0 then x.1 else x.2.1)) (fun x => (0 ≤ x.1 ∧ x.1 < 256) ∧ 0 ≤ x.2.1 ∧ x.2.1 < 256) :=
  (RdT.struct3 Try.underlying56 rfl rfl rfl (by kernel_rfl) (by kernel_rfl) (by kernel_rfl) (by kernel_rfl) (RdT.int (k := .u8) Try.underlying5) (RdT.int (k := .u8) Try.underlying5) (RdT.bool Try.underlying4)).congr (fun a j hj => by
    match j with
    | 0 => rfl
    | 1 => rfl
    | 2 => rfl) fun x h => ⟨wf8 h.1, wf8 h.2.1⟩
theorem contract8 (H : Type) (enc : TypeId × Value → H) (W : World) (base : Nat) (args : Array Value) (ds gs : List (DataW H)) (before : List MemPlace)
    (hval : ∀ (j : Nat) t v, Try.f8.params[j]? = some t → args[j]? = some v → Value.okWide Try.prog W .any base t v)
    (hW : DataW.Whole enc Try.prog Try.f8.params.toList Rows.downlinkOnesSpec.vars false W args.toList ds gs before)
    (hsz : (DataW.weightsEach Try.prog (Try.f8.params.toList ++ Rows.downlinkOnesSpec.plain.varTypes Try.prog) (ds ++ gs)).all (· ≤ reachBytes) = true) :
    Calls Try.prog 8 args W fun e W' => ∃ v, e = .returned v ∧ Rows.downlinkOnesSpec.post enc Try.prog Try.f8 false true false false W args v W' := by
  have hW' := hW
  obtain ⟨p, q, hA0, hV, rfl, hfz, hnd⟩ := hW
  have hA : DataW.TrodAll enc Try.prog W 0 (fun _ => true) true Try.f8.params.toList args.toList ds p := hA0
  rw [Try.params8] at hA hval hsz
  obtain ⟨v0, vs0, d0, ds0, p0, q0, hargs, rfl, rfl, h0, r0⟩ := trodAll_cons hA
  obtain ⟨v1, vs1, d1, ds1, p1, q1, rfl, rfl, rfl, h1, r1⟩ := trodAll_cons r0
  obtain ⟨rfl, rfl, rfl⟩ := trodAll_nil r1
  obtain rfl : args = #[v0, v1] := by cases args; simp_all
  obtain ⟨hs0, hsz⟩ := weights_cons hsz
  obtain ⟨_, hv0, _⟩ := okWide_struct Try.underlying54 (hval 0 54 v0 rfl rfl)
  obtain ⟨l0, ⟨hi0, hn0, hd0⟩, ha0⟩ := rdOwn.argN ⟨_, hv0⟩ h0 hs0
  obtain ⟨hs1, hsz⟩ := weights_cons hsz
  obtain ⟨_, hv1, _⟩ := okWide_struct Try.underlying56 (hval 1 56 v1 rfl rfl)
  obtain ⟨l1, ⟨hw1, hb1⟩, ha1⟩ := rdSpot.argN ⟨_, hv1⟩ h1 hs1
  exact law_calls (tb := 4) laid (by kernel_rfl) Try.underlying4 (by kernel_rfl) rfl hW' rfl [ownV l0, spotV l1.1 l1.2.1 l1.2.2] (args_two (ha0 noNames) (ha1 noNames)) (f8 l0.1 l0.2 l1.1 l1.2.1 l1.2.2 hi0 hd0 hn0 hw1 hb1)
set_option maxRecDepth 100000 in
theorem lifted8 (os : Os) (started : os.Started) (H : Type) (enc : TypeId × Value → H) :
    ReturnsInHanded {} Try.checked os 8 .any (Rows.downlinkOnesSpec.pre6 enc Try.prog Try.f8 Rows.downlinkOnesRow.domain false) (Rows.downlinkOnesSpec.post enc Try.prog Try.f8 false true false false) := by
  refine returnsInHanded_of_change_sized (C := Try.checked) own started (by kernel_rfl) Try.func8
    (ChangeSpec.witness6 (enc := enc) (C := Try.checked) false ⟨#[], #[.agg (#[.int .u16 0] ++ Array.replicate 18 (.int .u16 0)), .agg #[.int .u8 0, .int .u8 0, .bool false]], []⟩ 8 (by kernel_rfl) (by kernel_rfl) (by kernel_rfl) (by kernel_rfl) (by kernel_rfl)) ?_
  intro W base args ds gs before hval hW _ hsz _
  exact contract8 H enc W base args ds gs before hval hW hsz
theorem DownlinkOnes_holds : Rows.DownlinkOnesSaid :=
  OpenClaim.holds_of_wide 8 Try.f8 rfl rfl rfl rfl rfl rfl rfl ⟨rfl, rfl, rfl, rfl, rfl⟩ rfl rfl rfl rfl rfl (by kernel_rfl) Try.func8 (by kernel_rfl)
    (of_decide_eq_true (by kernel_rfl)) (by unfold Func.isWrapper; first | (rw [if_pos (by decide +kernel)]; kernel_rfl) | (rw [if_neg (by decide +kernel)]; exact ⟨rfl, rfl⟩))
    (fun os started H enc _ => lifted8 os started H enc)
end Go.Proofs.Ytncmpjpmcliomaa
