/- What Print returns is scanned as the same line, and the printed lines of a source are scanned as these lines; no condition. -/
import Derived.Test.YtdoeiccibhabcaaDoorV4
import Derived.Test.YtdoeiccibhabcaaDoorC0
namespace Go.Proofs.YtdoeiccibhabcaaDoor
open Go Go.AM Go.RowKit Go.ChangeShapes Go.WideShapes Go.ChangeAt
theorem rdArg : RdT Tryd.prog 28 3 (fun (a : Int × List UInt8 × Int) => fun j => bif Nat.ble (j + 1) 1 then .int .u8 a.1 else bif Nat.ble (j + 1) 2 then .str a.2.1 else .int .i64 a.2.2) (fun a => a.2.1.length ≤ 140737488355328 ∧ inI64 a.2.2) :=
  (RdT.struct3 Tryd.underlying28 rfl rfl rfl (by kernel_rfl) (by kernel_rfl) (by kernel_rfl) (by kernel_rfl) (RdT.int (k := .u8) Tryd.underlying5) rdStr (RdT.int (k := .i64) Tryd.underlying3)).congr (fun _ _ _ => rfl) fun a h => ⟨h.2.1, by
    have := h.2.2
    simp only [Lit.wf, Bool.and_eq_true, decide_eq_true_eq] at this
    exact this⟩
def lineOf (p : List UInt8 × List UInt8 × Int × List UInt8 × Int) : Line := ⟨p.1, p.2.1, ⟨p.2.2.1, p.2.2.2.1, p.2.2.2.2⟩⟩
theorem rdLine : RdT Tryd.prog 32 5 (fun (p : List UInt8 × List UInt8 × Int × List UInt8 × Int) => fun j => bif Nat.ble (j + 1) 1 then .str p.1 else bif Nat.ble (j + 1) 2 then .str p.2.1 else (bif Nat.ble (j - 2 + 1) 1 then .int .u8 p.2.2.1 else bif Nat.ble (j - 2 + 1) 2 then .str p.2.2.2.1 else .int .i64 p.2.2.2.2)) (fun p => LineB (lineOf p)) :=
  (RdT.struct3 Tryd.underlying32 rfl rfl rfl (by kernel_rfl) (by kernel_rfl) (by kernel_rfl) (by kernel_rfl) rdStr rdStr rdArg).congr (fun _ _ _ => rfl) fun p h => ⟨by have := h.1; unfold lineOf; dsimp only; omega, by have := h.2.1; unfold lineOf; dsimp only; omega, by have := h.2.2.1; unfold lineOf; dsimp only; omega, h.2.2.2⟩
theorem rdLines : RdT Tryd.prog 43 1 (fun (l : List (List UInt8 × List UInt8 × Int × List UInt8 × Int)) _ => linesP (l.map lineOf)) (fun l => (∀ a ∈ l, LineB (lineOf a)) ∧ l.length * Tryd.prog.bytesOf 32 ≤ reachBytes) :=
  (RdT.slice Tryd.underlying43 (by kernel_rfl) (by decide) ([], [], 0, [], 0) rdLine).congr (fun l _ _ => by
    unfold linesP sqA
    rw [List.length_map]
    congr 1
    funext i j
    have e : (l.map lineOf).getD i lz = lineOf (l.getD i ([], [], 0, [], 0)) := by
      rw [List.getD_eq_getElem?_getD, List.getD_eq_getElem?_getD, List.getElem?_map]
      cases l[i]? <;> rfl
    rw [e]
    match j with
    | 0 => rfl
    | 1 => rfl
    | 2 => rfl
    | 3 => rfl
    | j + 4 => rfl) fun _ h => h
theorem bytes32 : Tryd.prog.bytesOf 32 = 64 := by kernel_rfl
theorem contract11 (H : Type) (enc : TypeId × Value → H) (W : World) (base : Nat) (args : Array Value) (ds gs : List (DataW H)) (before : List MemPlace)
    (hval : ∀ (j : Nat) t v, Tryd.f11.params[j]? = some t → args[j]? = some v → Value.okWide Tryd.prog W .any base t v)
    (hW : DataW.Whole enc Tryd.prog Tryd.f11.params.toList Rows.tokenRoundSpec.vars false W args.toList ds gs before)
    (hsz : (DataW.weightsEach Tryd.prog (Tryd.f11.params.toList ++ Rows.tokenRoundSpec.plain.varTypes Tryd.prog) (ds ++ gs)).all (· ≤ reachBytes) = true) (hL : laidMetH Tryd.prog laidL W) :
    Calls Tryd.prog 11 args W fun e W' => ∃ v, e = .returned v ∧ Rows.tokenRoundSpec.post enc Tryd.prog Tryd.f11 false true false false W args v W' := by
  have hW' := hW
  obtain ⟨p, q, hA0, hV, rfl, hfz, hnd⟩ := hW
  have hA : DataW.TrodAll enc Tryd.prog W 0 (fun _ => true) true Tryd.f11.params.toList args.toList ds p := hA0
  rw [Tryd.params11] at hA hval hsz
  obtain ⟨v0, vs0, d0, ds0, p0, q0, hargs, rfl, rfl, h0, r0⟩ := trodAll_cons hA
  obtain ⟨rfl, rfl, rfl⟩ := trodAll_nil r0
  obtain rfl : args = #[v0] := by cases args; simp_all
  obtain ⟨hs0, hsz⟩ := weights_cons hsz
  obtain ⟨_, _, _, hv0⟩ := okWide_slice Tryd.underlying43 (hval 0 43 v0 rfl rfl)
  obtain ⟨l0, hl, ha0⟩ := rdLines.arg1 (fun cs h => by rw [hv0] at h; cases h) h0 hs0
  exact law_calls (tb := 4) laidOut (by kernel_rfl) Tryd.underlying4 (by kernel_rfl) rfl hW' rfl (env_of hL) [_] (args_one (ha0 noNames)) (f11 (l0.map lineOf) (by rw [List.length_map]; have := hl.2; rw [bytes32] at this; simp only [reachBytes] at this; omega) (fun l h => by obtain ⟨a, ha, rfl⟩ := List.mem_map.mp h; exact hl.1 a ha))
set_option maxRecDepth 100000 in
theorem lifted11 (os : Os) (started : os.Started) (H : Type) (enc : TypeId × Value → H) :
    ReturnsInHanded {} Tryd.checked os 11 .any (fun w args => (Rows.tokenRoundSpec.pre enc Tryd.prog Tryd.f11 [] false w args ∧ laidMetH Tryd.prog laidL w) ∧ sizedMet enc Tryd.prog Tryd.f11 (OpenSpec.ofChange Rows.tokenRoundSpec) false w args)
      (Rows.tokenRoundSpec.post enc Tryd.prog Tryd.f11 false true false false) := by
  refine returnsInHanded_of_change_and (C := Tryd.checked) (X := fun w _ => laidMetH Tryd.prog laidL w) (fun _ _ _ hh h => h.of_heap hh) own started (by kernel_rfl) Tryd.func11
    (ChangeSpec.witness_shaped (enc := enc) (C := Tryd.checked) (os := os) (X := fun w _ => laidMetH Tryd.prog laidL w) false (World.doorLaid Tryd.prog 400 os) #[.slice none 0 0] 8 rfl (World.shaped_of_RefB (by kernel_rfl) (by kernel_rfl)) (by kernel_rfl) (by kernel_rfl) (by kernel_rfl) (door_met os _)) ?_
  intro W base args ds gs before hval hW _ hsz hL _
  exact contract11 H enc W base args ds gs before hval hW hsz hL
theorem TokenRound_row : Rows.TokenRoundSaid :=
  OpenClaim.holds_of_wide 11 Tryd.f11 rfl rfl rfl rfl rfl rfl rfl ⟨rfl, rfl, rfl, rfl, rfl⟩ rfl rfl rfl rfl rfl (by kernel_rfl) Tryd.func11 (by kernel_rfl)
    (of_decide_eq_true (by kernel_rfl)) (by unfold Func.isWrapper; first | (rw [if_pos (by decide +kernel)]; kernel_rfl) | (rw [if_neg (by decide +kernel)]; exact ⟨rfl, rfl⟩))
    (fun os started H enc _ => lifted11 os started H enc)
theorem TokenRound_holds : Rows.TokenRoundCardSaid :=
  Claim7.holds_tied_plain_at .later [] [.data, .data, .data] true (true, "265f02ad9d2661d3c4b95a1abc32752552398e1c28282887a36be2365e60b0f6") false
    TokenRound_row (fun _ h => by cases h) (by kernel_rfl) (fun _ h => by cases h) tokenRound_row_tie rfl ⟨rfl, rfl⟩ (by kernel_rfl) rfl
    (fun f fn hf hfn => by
      obtain rfl : f = 11 := Option.some.inj ((show Tryd.prog.funcNamed Rows.tokenRoundRow.func = some 11 by kernel_rfl).symm.trans hf) |>.symm
      obtain rfl : fn = Tryd.f11 := (Option.some.inj (Tryd.func11.symm.trans hfn)).symm
      exact ⟨by kernel_rfl, fun j t ht => by
        rw [Tryd.params11] at ht
        have hm : t ∈ [43] := by simpa using Array.mem_of_getElem? ht
        have hall : ([43].all fun u => !Tryd.prog.wantsStandIn u) = true := by kernel_rfl
        exact (show Tryd.prog.wantsStandIn t = false by simpa using List.all_eq_true.1 hall t hm)⟩)
    (by kernel_rfl)
end Go.Proofs.YtdoeiccibhabcaaDoor
