/- What Print returns, and what the reference's Print returns, are the same for every line; no condition. -/
import Derived.Test.YtdoeiccibhabcaaDoorV3
import Derived.Test.YtdoeiccibhabcaaDoorC0
namespace Go.Proofs.YtdoeiccibhabcaaDoor
open Go Go.AM Go.RowKit Go.ChangeShapes Go.WideShapes Go.ChangeAt
theorem rdArg : RdT Tryd.prog 28 3 (fun (a : Int × List UInt8 × Int) => fun j => bif Nat.ble (j + 1) 1 then .int .u8 a.1 else bif Nat.ble (j + 1) 2 then .str a.2.1 else .int .i64 a.2.2) (fun a => a.2.1.length ≤ 140737488355328 ∧ inI64 a.2.2) :=
  (RdT.struct3 Tryd.underlying28 rfl rfl rfl (by kernel_rfl) (by kernel_rfl) (by kernel_rfl) (by kernel_rfl) (RdT.int (k := .u8) Tryd.underlying5) rdStr (RdT.int (k := .i64) Tryd.underlying3)).congr (fun _ _ _ => rfl) fun a h => ⟨h.2.1, by
    have := h.2.2
    simp only [Lit.wf, Bool.and_eq_true, decide_eq_true_eq] at this
    exact this⟩
def lineOf (p : List UInt8 × List UInt8 × Int × List UInt8 × Int) : Line := ⟨p.1, p.2.1, ⟨p.2.2.1, p.2.2.2.1, p.2.2.2.2⟩⟩
theorem rdLine : RdT Tryd.prog 32 5 (fun (p : List UInt8 × List UInt8 × Int × List UInt8 × Int) => fun j => bif Nat.ble (j + 1) 1 then .str p.1 else bif Nat.ble (j + 1) 2 then .str p.2.1 else (bif Nat.ble (j - 2 + 1) 1 then .int .u8 p.2.2.1 else bif Nat.ble (j - 2 + 1) 2 then .str p.2.2.2.1 else .int .i64 p.2.2.2.2)) (fun p => LineB (lineOf p)) :=
  (RdT.struct3 Tryd.underlying32 rfl rfl rfl (by kernel_rfl) (by kernel_rfl) (by kernel_rfl) (by kernel_rfl) rdStr rdStr rdArg).congr (fun _ _ _ => rfl) fun p h => ⟨by have := h.1; unfold lineOf; dsimp only; omega, by have := h.2.1; unfold lineOf; dsimp only; omega, by have := h.2.2.1; unfold lineOf; dsimp only; omega, h.2.2.2⟩
theorem ra_agg {φ : Names} {w : World} {M : Blocks} {n : Nat} {f g : Nat → AV} {x : Value} (h : ∀ i, i < n → f i = g i) (hr : Ra φ w M (.agg n f) x) : Ra φ w M (.agg n g) x := by
  cases hr with
  | agg _ _ cs h1 h2 h3 => exact .agg _ _ cs h1 h2 fun i hi => by rw [← h i hi]; exact h3 i hi
theorem ra_line {φ : Names} {w : World} {M : Blocks} {p : List UInt8 × List UInt8 × Int × List UInt8 × Int} {x : Value}
    (hr : Ra φ w M (.agg 5 fun j => .pv (bif Nat.ble (j + 1) 1 then .str p.1 else bif Nat.ble (j + 1) 2 then .str p.2.1 else (bif Nat.ble (j - 2 + 1) 1 then .int .u8 p.2.2.1 else bif Nat.ble (j - 2 + 1) 2 then .str p.2.2.2.1 else .int .i64 p.2.2.2.2))) x) : Ra φ w M (lineOf p).av x :=
  by
  refine ra_agg (fun i hi => ?_) hr
  match i, hi with
  | 0, _ => rfl
  | 1, _ => rfl
  | 2, _ => rfl
  | 3, _ => rfl
  | 4, _ => rfl
theorem contract6 (H : Type) (enc : TypeId × Value → H) (W : World) (base : Nat) (args : Array Value) (ds gs : List (DataW H)) (before : List MemPlace)
    (hval : ∀ (j : Nat) t v, Tryd.f6.params[j]? = some t → args[j]? = some v → Value.okWide Tryd.prog W .any base t v)
    (hW : DataW.Whole enc Tryd.prog Tryd.f6.params.toList Rows.tokenPrintsSpec.vars false W args.toList ds gs before)
    (hsz : (DataW.weightsEach Tryd.prog (Tryd.f6.params.toList ++ Rows.tokenPrintsSpec.plain.varTypes Tryd.prog) (ds ++ gs)).all (· ≤ reachBytes) = true) (hL : laidMetH Tryd.prog laidL W) :
    Calls Tryd.prog 6 args W fun e W' => ∃ v, e = .returned v ∧ Rows.tokenPrintsSpec.post enc Tryd.prog Tryd.f6 false true false false W args v W' := by
  have hW' := hW
  obtain ⟨p, q, hA0, hV, rfl, hfz, hnd⟩ := hW
  have hA : DataW.TrodAll enc Tryd.prog W 0 (fun _ => true) true Tryd.f6.params.toList args.toList ds p := hA0
  rw [Tryd.params6] at hA hval hsz
  obtain ⟨v0, vs0, d0, ds0, p0, q0, hargs, rfl, rfl, h0, r0⟩ := trodAll_cons hA
  obtain ⟨rfl, rfl, rfl⟩ := trodAll_nil r0
  obtain rfl : args = #[v0] := by cases args; simp_all
  obtain ⟨hs0, hsz⟩ := weights_cons hsz
  obtain ⟨_, hv0, _⟩ := okWide_struct Tryd.underlying32 (hval 0 32 v0 rfl rfl)
  obtain ⟨l0, hl, ha0⟩ := rdLine.argN ⟨_, hv0⟩ h0 hs0
  exact law_calls (tb := 4) laidOut (by kernel_rfl) Tryd.underlying4 (by kernel_rfl) rfl hW' rfl (env_of hL) [_] (args_one (ra_line (ha0 noNames))) (f6 (lineOf l0) hl)
set_option maxRecDepth 100000 in
theorem lifted6 (os : Os) (started : os.Started) (H : Type) (enc : TypeId × Value → H) :
    ReturnsInHanded {} Tryd.checked os 6 .any (fun w args => (Rows.tokenPrintsSpec.pre enc Tryd.prog Tryd.f6 [] false w args ∧ laidMetH Tryd.prog laidL w) ∧ sizedMet enc Tryd.prog Tryd.f6 (OpenSpec.ofChange Rows.tokenPrintsSpec) false w args)
      (Rows.tokenPrintsSpec.post enc Tryd.prog Tryd.f6 false true false false) := by
  refine returnsInHanded_of_change_and (C := Tryd.checked) (X := fun w _ => laidMetH Tryd.prog laidL w) (fun _ _ _ hh h => h.of_heap hh) own started (by kernel_rfl) Tryd.func6
    (ChangeSpec.witness_shaped (enc := enc) (C := Tryd.checked) (os := os) (X := fun w _ => laidMetH Tryd.prog laidL w) false (World.doorLaid Tryd.prog 400 os) #[.agg #[.string ⟨#[]⟩, .string ⟨#[]⟩, .int .u8 0, .string ⟨#[]⟩, .int .i64 0]] 8 rfl (World.shaped_of_RefB (by kernel_rfl) (by kernel_rfl)) (by kernel_rfl) (by kernel_rfl) (by kernel_rfl) (door_met os _)) ?_
  intro W base args ds gs before hval hW _ hsz hL _
  exact contract6 H enc W base args ds gs before hval hW hsz hL
theorem TokenPrints_row : Rows.TokenPrintsSaid :=
  OpenClaim.holds_of_wide 6 Tryd.f6 rfl rfl rfl rfl rfl rfl rfl ⟨rfl, rfl, rfl, rfl, rfl⟩ rfl rfl rfl rfl rfl (by kernel_rfl) Tryd.func6 (by kernel_rfl)
    (of_decide_eq_true (by kernel_rfl)) (by unfold Func.isWrapper; first | (rw [if_pos (by decide +kernel)]; kernel_rfl) | (rw [if_neg (by decide +kernel)]; exact ⟨rfl, rfl⟩))
    (fun os started H enc _ => lifted6 os started H enc)
theorem TokenPrints_holds : Rows.TokenPrintsCardSaid :=
  Claim7.holds_tied_plain_at .later [] [.data, .data, .data] true (true, "265f02ad9d2661d3c4b95a1abc32752552398e1c28282887a36be2365e60b0f6") false
    TokenPrints_row (fun _ h => by cases h) (by kernel_rfl) (fun _ h => by cases h) tokenPrints_row_tie rfl ⟨rfl, rfl⟩ (by kernel_rfl) rfl
    (fun f fn hf hfn => by
      obtain rfl : f = 6 := Option.some.inj ((show Tryd.prog.funcNamed Rows.tokenPrintsRow.func = some 6 by kernel_rfl).symm.trans hf) |>.symm
      obtain rfl : fn = Tryd.f6 := (Option.some.inj (Tryd.func6.symm.trans hfn)).symm
      exact ⟨by kernel_rfl, fun j t ht => by
        rw [Tryd.params6] at ht
        have hm : t ∈ [32] := by simpa using Array.mem_of_getElem? ht
        have hall : ([32].all fun u => !Tryd.prog.wantsStandIn u) = true := by kernel_rfl
        exact (show Tryd.prog.wantsStandIn t = false by simpa using List.all_eq_true.1 hall t hm)⟩)
    (by kernel_rfl)
end Go.Proofs.YtdoeiccibhabcaaDoor
