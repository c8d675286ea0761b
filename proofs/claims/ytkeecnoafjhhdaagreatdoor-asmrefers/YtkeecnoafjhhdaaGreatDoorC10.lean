/- What the laws' rows list, and what is read of their arguments. -/
import Derived.Test.YtkeecnoafjhhdaaGreatDoorC0
import Derived.Test.YtkeecnoafjhhdaaGreatDoorV3
namespace Go.AM
open Go Go.RowKit
theorem RdT.struct4g {P : Program} {t : TypeId} {α β γ δ : Type} {f0 f1 f2 f3 : Field} {n0 n1 n2 n3 : Nat} {pv0 : α → Nat → PV} {pv1 : β → Nat → PV} {pv2 : γ → Nat → PV} {pv3 : δ → Nat → PV} {ok0 : α → Prop} {ok1 : β → Prop} {ok2 : γ → Prop} {ok3 : δ → Prop} (ht : P.underlying t = some (.struct #[f0, f1, f2, f3]))
  (ho0 : f0.offset = 0) (ho1 : f1.offset = n0) (ho2 : f2.offset = n0 + n1) (ho3 : f3.offset = n0 + n1 + n2) (hc0 : P.cellsOf f0.type = n0) (hc1 : P.cellsOf f1.type = n1) (hc2 : P.cellsOf f2.type = n2) (hc3 : P.cellsOf f3.type = n3) (hct : P.cellsOf t = n0 + n1 + n2 + n3)
  (h0 : RdT P f0.type n0 pv0 ok0) (h1 : RdT P f1.type n1 pv1 ok1) (h2 : RdT P f2.type n2 pv2 ok2) (h3 : RdT P f3.type n3 pv3 ok3) :
  RdT P t (n0 + n1 + n2 + n3) (fun (a : α × β × γ × δ) j => bif Nat.ble (j + 1) n0 then pv0 a.1 j else bif Nat.ble (j + 1) (n0 + n1) then pv1 a.2.1 (j - n0) else bif Nat.ble (j + 1) (n0 + n1 + n2) then pv2 a.2.2.1 (j - (n0 + n1)) else pv3 a.2.2.2 (j - (n0 + n1 + n2))) (fun a => ok0 a.1 ∧ ok1 a.2.1 ∧ ok2 a.2.2.1 ∧ ok3 a.2.2.2) := by
 intro H enc w sp fuel cs x h hwt
 obtain ⟨xs, k, _, rfl, hlen, hxl, hf⟩ := DataW.trod_struct ht h
 have hl2 : xs.length = 4 := hxl
 match xs, hl2 with
 | [x0, x1, x2, x3], _ =>
 have hws : DataW.weights P t (.agg ([x0, x1, x2, x3].map (·.1))) = DataW.weights P f0.type x0.1 ++ (DataW.weights P f1.type x1.1 ++ (DataW.weights P f2.type x2.1 ++ (DataW.weights P f3.type x3.1 ++ []))) := by
  simp only [DataW.weights, ht, List.map, DataW.weightsEach]
 dsimp only at hwt
 rw [hws] at hwt
 have g0 := hf 0 f0 rfl
 have g1 := hf 1 f1 rfl
 have g2 := hf 2 f2 rfl
 have g3 := hf 3 f3 rfl
 rw [ho0, hc0] at g0
 rw [ho1, hc1] at g1
 rw [ho2, hc2] at g2
 rw [ho3, hc3] at g3
 obtain ⟨_, a, k1, k2⟩ := h0 H enc w sp k _ x0 g0 fun q hq => hwt q (by simp only [List.mem_append]; exact .inl hq)
 obtain ⟨_, b, k3, k4⟩ := h1 H enc w sp k _ x1 g1 fun q hq => hwt q (by simp only [List.mem_append]; exact .inr (.inl hq))
 obtain ⟨_, c, k5, k6⟩ := h2 H enc w sp k _ x2 g2 fun q hq => hwt q (by simp only [List.mem_append]; exact .inr (.inr (.inl hq)))
 obtain ⟨_, d, k7, k8⟩ := h3 H enc w sp k _ x3 g3 fun q hq => hwt q (by simp only [List.mem_append]; exact .inr (.inr (.inr (.inl hq))))
 refine ⟨by rw [hlen, hct], (a, b, c, d), ⟨k1, k3, k5, k7⟩, fun j hj => ?_⟩
 have no : ∀ {a b : Nat}, ¬ a < b → Nat.ble (a + 1) b = false := fun h => by rw [← Bool.not_eq_true, Nat.ble_eq]; exact h
 by_cases hj0 : j < n0
 ·have := k2 j hj0
  rw [drop_take_getD hj0, Nat.zero_add] at this
  dsimp only
  rw [Nat.ble_eq_true_of_le hj0]
  exact this
 ·by_cases hj1 : j < n0 + n1
  ·have := k4 (j - n0) (by omega)
   rw [drop_take_getD (by omega), show n0 + (j - n0) = j by omega] at this
   dsimp only
   rw [no hj0, Nat.ble_eq_true_of_le hj1]
   exact this
  ·by_cases hj2 : j < n0 + n1 + n2
   ·have := k6 (j - (n0 + n1)) (by omega)
    rw [drop_take_getD (by omega), show n0 + n1 + (j - (n0 + n1)) = j by omega] at this
    dsimp only
    rw [no hj0, no hj1, Nat.ble_eq_true_of_le hj2]
    exact this
   ·have := k8 (j - (n0 + n1 + n2)) (by omega)
    rw [drop_take_getD (by omega), show n0 + n1 + n2 + (j - (n0 + n1 + n2)) = j by omega] at this
    dsimp only
    rw [no hj0, no hj1, no hj2]
    exact this
end Go.AM
namespace Go.Proofs.YtkeecnoafjhhdaaGreatDoor
open Go Go.AM Go.RowKit
theorem rdArr : RdT Tryz.prog 75 10 (fun (l : List Nat) j => wcell (l.getD (j / 1) 0) (j % 1)) (fun l => l.length = 10 ∧ ∀ a ∈ l, a < 65536) :=
 RdT.array (k := 10) Tryz.underlying75 (by kernel_rfl) (by kernel_rfl) 0 rdU16
def Wr.p (w : Wr) (j : Nat) : PV := whC w.b w.e w.er w.fi j
theorem rdWh : RdT Tryz.prog 77 22 Wr.p WrB :=
 RdT.map (RdT.struct4g Tryz.underlying77 rfl rfl rfl rfl (by kernel_rfl) (by kernel_rfl) (by kernel_rfl) (by kernel_rfl) (by kernel_rfl) rdU8 rdU8 rdArr rdArr) (fun p => (⟨p.1, p.2.1, fun i => p.2.2.1.getD i 0, fun i => p.2.2.2.getD i 0⟩ : Wr)) (fun a j _ hj => match j, hj with
  | 0, _ => rfl
  | 1, _ => rfl
  | 2, _ => rfl
  | 3, _ => rfl
  | 4, _ => rfl
  | 5, _ => rfl
  | 6, _ => rfl
  | 7, _ => rfl
  | 8, _ => rfl
  | 9, _ => rfl
  | 10, _ => rfl
  | 11, _ => rfl
  | 12, _ => rfl
  | 13, _ => rfl
  | 14, _ => rfl
  | 15, _ => rfl
  | 16, _ => rfl
  | 17, _ => rfl
  | 18, _ => rfl
  | 19, _ => rfl
  | 20, _ => rfl
  | 21, _ => rfl
  | j + 22, h => absurd (show j + 22 < 22 from h) (by omega)) fun a h => ⟨h.1, h.2.1, fun i hi => h.2.2.1.2 _ (getD_in (by rw [h.2.2.1.1]; exact hi)), fun i hi => h.2.2.2.2 _ (getD_in (by rw [h.2.2.2.1]; exact hi))⟩
theorem wfi8 {a : Int} (h : (Lit.int .i8 a).wf = true) : -128 ≤ a ∧ a ≤ 127 := by
 simp only [Lit.wf, Bool.and_eq_true, decide_eq_true_eq] at h
 exact h
theorem rdUse : RdT Tryz.prog 82 4 usP UrB :=
 RdT.map (RdT.struct4 Tryz.underlying82 rfl rfl rfl rfl (by kernel_rfl) (by kernel_rfl) (by kernel_rfl) (by kernel_rfl) (by kernel_rfl) (RdT.bool Tryz.underlying4) rdU8 (RdT.int (k := .i8) Tryz.underlying80) rdU8) (fun p => (⟨p.1, p.2.1, p.2.2.1, p.2.2.2⟩ : Ur)) (fun a j h hj => match j, hj with
  | 0, _ => rfl
  | 1, _ => rfl
  | 2, _ => rfl
  | 3, _ => rfl) fun p h => ⟨h.2.1, h.2.2.2, wfi8 h.2.2.1⟩
theorem rdUses : RdT Tryz.prog 78 1 (fun l _ => usesP l) (fun l => l.length < 2 ^ 46 ∧ ∀ u ∈ l, UrB u) :=
 (RdT.slice Tryz.underlying78 (by kernel_rfl) (by decide) u0 rdUse).congr (fun _ _ _ => rfl) fun l h => ⟨by have := h.2; rw [show Tryz.prog.bytesOf 82 = 4 by kernel_rfl] at this; simp only [reachBytes] at this; omega, h.1⟩
end Go.Proofs.YtkeecnoafjhhdaaGreatDoor
