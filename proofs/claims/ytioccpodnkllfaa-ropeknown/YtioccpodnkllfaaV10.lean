/- Part of the proof: what the functions that the law calls compute (10). -/
import Derived.Test.YtioccpodnkllfaaV9
namespace Go.Proofs.Ytioccpodnkllfaa
open Go Go.AM
attribute [local irreducible] AWP CallK PureCall SubS HeapCall HeapCallP HeapCallK
def zW (n : Nat) : List Nat := List.replicate n 0
theorem zW_getD (n a : Nat) : (zW n).getD a 0 = 0 := by
  unfold zW
  rw [List.getD_eq_getElem?_getD, List.getElem?_replicate]
  split <;> rfl
theorem zW_wb {n : Nat} (h : n < 2000) : WB (zW n) := ⟨by unfold zW; rw [List.length_replicate]; omega, fun w hw => by
  obtain rfl := List.eq_of_mem_replicate hw; decide⟩
theorem zW_len (n : Nat) : (zW n).length = n := List.length_replicate
theorem w1 : sealR ⟨36, []⟩ = (b0, 3) := by rfl
theorem w2 : sealR ⟨0, zW 1024⟩ = (b0, 13) := by
  unfold sealR
  rw [if_neg (by decide), if_pos (by show (1024 : Int) ≤ ((zW 1024).length : Int); rw [zW_len]; decide)]
theorem w3 : sealR ⟨0, [32768]⟩ = (b0, 3) := by rfl
theorem w4 : packR [⟨1, []⟩] = ([], 10) := by rfl
theorem w5 : packR [b0, b0] = ([], 8) := by rfl
theorem w6 : packR [⟨0, zW 1025⟩] = ([], 4) := by
  have h : checkE ⟨0, zW 1025⟩ (-1) = 4 := by
    unfold checkE
    rw [if_neg (by decide), if_neg (by decide), if_pos (by show lenB (zW 1025) = false; unfold lenB; rw [zW_len]; decide)]
  have h2 : packE [⟨0, zW 1025⟩] (-1) = 4 := by rw [packE, h, if_pos (by decide)]
  unfold packR
  rw [h2, if_pos (by decide)]
theorem w7 : packR [⟨-1, []⟩] = ([], 3) := by rfl
theorem w8' : unpackA [80, 82, 76, 49, 128, 0, 0] = .error (6, 5) := by
  have h : magE [80, 82, 76, 49, 128, 0, 0] 0 = none := by
    rw [magE_eq, magE_eq, magE_eq, magE_eq, magE_eq]; rfl
  unfold unpackA
  rw [h]; rfl
theorem w9 : unpackA [80, 82, 76, 49, 0, 0] = .error (4, 11) := by
  have h : magE [80, 82, 76, 49, 0, 0] 0 = none := by
    rw [magE_eq, magE_eq, magE_eq, magE_eq, magE_eq]; rfl
  unfold unpackA
  rw [h]; rfl
theorem w10 : unpackA [80, 82, 88, 49] = .error (2, 5) := by
  have h : magE [80, 82, 88, 49] 0 = some (2, 5) := by
    rw [magE_eq, magE_eq, magE_eq]; rfl
  unfold unpackA
  rw [h]
theorem w11 : objR [(36864, 0)] = ([], 3) := by rfl
theorem w12 : objR [(5, 0), (5, 0)] = ([], 8) := by rfl
theorem s1 : sumW [16383, 2] = 16385 := by rfl
theorem s2 : sumW [32766, 2] = 1 := by rfl
theorem s3 : sealedB ⟨0, [32767]⟩ = true := by rfl
theorem bk0 {n : Int} (h : inI64 n) : BankB ⟨n, []⟩ := ⟨h, by show (0 : Nat) < 2 ^ 46; decide, fun _ h => by cases h⟩
set_option maxHeartbeats 4000000 in
theorem f14 : PureCall Try.prog 14 [] (bb true) := by
  refine PureCall.body tab_ok (by kernel_rfl) Try.func14 rfl rfl rfl ?_
  refine awp_piece tab_ok mixed ?_
  conv => whnf
  repeat (first | ((with_reducible first | apply ga | apply gb | apply gc | apply gd | apply ge | apply gf | apply gg | apply gh | apply gi | apply gj); conv => whnf) | (refine ⟨⟨rfl, rfl, nle rfl, nle rfl⟩, ?_⟩; conv => whnf) | fail)
  refine awp_pieceM tab_ok mixed (mkSt 202 [(1, bb true)] []) True (fun K hK => ?_) (fun _ => ?_)
  · conv => whnf
    repeat (first | ((with_reducible first | apply ga | apply gb | apply gc | apply gd | apply ge | apply gf | apply gg | apply gh | apply gi | apply gj); conv => whnf) | (refine ⟨⟨rfl, rfl, nle rfl, nle rfl⟩, ?_⟩; conv => whnf) | fail)
    refine CallK.flat [31] (f21 [16383, 2] ⟨by decide, by decide⟩) ⟨VLe.frzO (E := 39) (g := 0) (L := [16383, 2]) rfl rfl (CellsA.row (fun i j hi hj => ?_) rfl rfl rfl) rfl, trivial⟩ rfl ?_
    · have hj0 : j = 0 := Nat.lt_one_iff.mp hj
      subst hj0
      match i, hi with
      | 0, _ => exact .same
      | 1, _ => exact .same
    rw [s1]
    repeat (first | ((with_reducible first | apply ga | apply gb | apply gc | apply gd | apply ge | apply gf | apply gg | apply gh | apply gi | apply gj); conv => whnf) | (refine ⟨⟨rfl, rfl, nle rfl, nle rfl⟩, ?_⟩; conv => whnf) | (refine ⟨fun _ => ?_, fun h => absurd h (by decide)⟩; conv => whnf) | (refine ⟨fun h => absurd h (by decide), fun _ => ?_⟩; conv => whnf) | fail)
    refine CallK.flat [35] (f21 [32766, 2] ⟨by decide, by decide⟩) ⟨VLe.frzO (E := 39) (g := 0) (L := [32766, 2]) rfl rfl (CellsA.row (fun i j hi hj => ?_) rfl rfl rfl) rfl, trivial⟩ rfl ?_
    · have hj0 : j = 0 := Nat.lt_one_iff.mp hj
      subst hj0
      match i, hi with
      | 0, _ => exact .same
      | 1, _ => exact .same
    rw [s2]
    repeat (first | ((with_reducible first | apply ga | apply gb | apply gc | apply gd | apply ge | apply gf | apply gg | apply gh | apply gi | apply gj); conv => whnf) | (refine ⟨⟨rfl, rfl, nle rfl, nle rfl⟩, ?_⟩; conv => whnf) | (refine ⟨fun _ => ?_, fun h => absurd h (by decide)⟩; conv => whnf) | (refine ⟨fun h => absurd h (by decide), fun _ => ?_⟩; conv => whnf) | fail)
    refine CallK.flat [] (f21 [] ⟨by decide, by decide⟩) ⟨.nilA, trivial⟩ rfl ?_
    repeat (first | ((with_reducible first | apply ga | apply gb | apply gc | apply gd | apply ge | apply gf | apply gg | apply gh | apply gi | apply gj); conv => whnf) | (refine ⟨⟨rfl, rfl, nle rfl, nle rfl⟩, ?_⟩; conv => whnf) | (refine ⟨fun _ => ?_, fun h => absurd h (by decide)⟩; conv => whnf) | (refine ⟨fun h => absurd h (by decide), fun _ => ?_⟩; conv => whnf) | fail)
    refine CallK.flat [] (f23 ⟨0, []⟩ (bk0 (by unfold inI64; decide))) ⟨agg2 .same .nilA, trivial⟩ rfl ?_
    repeat (first | ((with_reducible first | apply ga | apply gb | apply gc | apply gd | apply ge | apply gf | apply gg | apply gh | apply gi | apply gj); conv => whnf) | (refine ⟨⟨rfl, rfl, nle rfl, nle rfl⟩, ?_⟩; conv => whnf) | (refine ⟨fun _ => ?_, fun h => absurd h (by decide)⟩; conv => whnf) | (refine ⟨fun h => absurd h (by decide), fun _ => ?_⟩; conv => whnf) | fail)
    refine CallK.flat [] (f23 ⟨1, []⟩ (bk0 (by unfold inI64; decide))) ⟨agg2 .same .nilA, trivial⟩ rfl ?_
    repeat (first | ((with_reducible first | apply ga | apply gb | apply gc | apply gd | apply ge | apply gf | apply gg | apply gh | apply gi | apply gj); conv => whnf) | (refine ⟨⟨rfl, rfl, nle rfl, nle rfl⟩, ?_⟩; conv => whnf) | (refine ⟨fun _ => ?_, fun h => absurd h (by decide)⟩; conv => whnf) | (refine ⟨fun h => absurd h (by decide), fun _ => ?_⟩; conv => whnf) | fail)
    refine CallK.flat [53] (f23 ⟨0, [32767]⟩ ⟨by unfold inI64; decide, by decide, by decide⟩) ⟨agg2 .same (VLe.frzO (E := 39) (g := 0) (L := [32767]) rfl rfl (CellsA.row (fun i j hi hj => ?_) rfl rfl rfl) rfl), trivial⟩ rfl ?_
    · have hj0 : j = 0 := Nat.lt_one_iff.mp hj
      subst hj0
      match i, hi with
      | 0, _ => exact .same
    rw [s3]
    repeat (first | ((with_reducible first | apply ga | apply gb | apply gc | apply gd | apply ge | apply gf | apply gg | apply gh | apply gi | apply gj); conv => whnf) | (refine ⟨⟨rfl, rfl, nle rfl, nle rfl⟩, ?_⟩; conv => whnf) | (refine ⟨fun _ => ?_, fun h => absurd h (by decide)⟩; conv => whnf) | (refine ⟨fun h => absurd h (by decide), fun _ => ?_⟩; conv => whnf) | fail)
    exact hK _ trivial (SubS.mk [] rfl ⟨⟨_, rfl, .same⟩, trivial⟩ trivial)
  refine awp_pieceM tab_ok mixed (mkSt 202 [(1, bb true), (3, i64 3)] []) True (fun K hK => ?_) (fun _ => ?_)
  · conv => whnf
    repeat (first | ((with_reducible first | apply ga | apply gb | apply gc | apply gd | apply ge | apply gf | apply gg | apply gh | apply gi | apply gj); conv => whnf) | (refine ⟨⟨rfl, rfl, nle rfl, nle rfl⟩, ?_⟩; conv => whnf) | fail)
    refine CallK.drop [] (f19 ⟨36, []⟩ (bk0 (by unfold inI64; decide))) ⟨agg2 .same .nilA, trivial⟩ ?_
    rw [w1]
    conv => whnf
    repeat (first | ((with_reducible first | apply ga | apply gb | apply gc | apply gd | apply ge | apply gf | apply gg | apply gh | apply gi | apply gj); conv => whnf) | (refine ⟨⟨rfl, rfl, nle rfl, nle rfl⟩, ?_⟩; conv => whnf) | fail)
    repeat (refine ⟨⟨rfl, rfl, nle rfl, nle rfl⟩, ?_⟩; conv => whnf)
    repeat (first | ((with_reducible first | apply ga | apply gb | apply gc | apply gd | apply ge | apply gf | apply gg | apply gh | apply gi | apply gj); conv => whnf) | (refine ⟨⟨rfl, rfl, nle rfl, nle rfl⟩, ?_⟩; conv => whnf) | fail)
    exact hK _ trivial (SubS.mk [] rfl ⟨⟨_, rfl, .same⟩, ⟨_, rfl, .same⟩, trivial⟩ trivial)
  refine awp_pieceM tab_ok mixed (mkSt 202 [(1, bb true), (3, i64 3), (5, i64 13)] []) True (fun K hK => ?_) (fun _ => ?_)
  · conv => whnf
    repeat (first | ((with_reducible first | apply ga | apply gb | apply gc | apply gd | apply ge | apply gf | apply gg | apply gh | apply gi | apply gj); conv => whnf) | (refine ⟨⟨rfl, rfl, nle rfl, nle rfl⟩, ?_⟩; conv => whnf) | fail)
    refine ⟨⟨by omega, by omega, by omega, by decide⟩, ?_⟩
    conv => whnf
    repeat (first | ((with_reducible first | apply ga | apply gb | apply gc | apply gd | apply ge | apply gf | apply gg | apply gh | apply gi | apply gj); conv => whnf) | (refine ⟨⟨rfl, rfl, nle rfl, nle rfl⟩, ?_⟩; conv => whnf) | fail)
    refine CallK.drop [63] (f19 ⟨0, zW 1024⟩ ⟨by unfold inI64; decide, zW_wb (by decide)⟩) ⟨agg2 .same (VLe.frzO (E := 39) (g := 0) (L := zW 1024) rfl rfl ⟨rfl, rfl, rfl, ?_, fun a b ha hb => ?_⟩ (zW_len 1024).symm), trivial⟩ ?_
    · show (zW 1024).length ≤ _
      rw [zW_len]; exact Nat.le_refl _
    · have hb0 : b = 0 := Nat.lt_one_iff.mp hb
      subst hb0
      show VLe _ _ _ _ (.pv (wcell ((zW 1024).getD a 0) 0))
      rw [zW_getD]; exact .same
    rw [w2]
    conv => whnf
    repeat (first | ((with_reducible first | apply ga | apply gb | apply gc | apply gd | apply ge | apply gf | apply gg | apply gh | apply gi | apply gj); conv => whnf) | (refine ⟨⟨rfl, rfl, nle rfl, nle rfl⟩, ?_⟩; conv => whnf) | fail)
    repeat (refine ⟨⟨rfl, rfl, nle rfl, nle rfl⟩, ?_⟩; conv => whnf)
    repeat (first | ((with_reducible first | apply ga | apply gb | apply gc | apply gd | apply ge | apply gf | apply gg | apply gh | apply gi | apply gj); conv => whnf) | (refine ⟨⟨rfl, rfl, nle rfl, nle rfl⟩, ?_⟩; conv => whnf) | fail)
    exact hK _ trivial (SubS.mk [] rfl ⟨⟨_, rfl, .same⟩, ⟨_, rfl, .same⟩, ⟨_, rfl, .same⟩, trivial⟩ trivial)
  refine awp_pieceM tab_ok mixed (mkSt 202 [(1, bb true), (3, i64 3), (5, i64 13), (7, i64 3)] []) True (fun K hK => ?_) (fun _ => ?_)
  · conv => whnf
    repeat (first | ((with_reducible first | apply ga | apply gb | apply gc | apply gd | apply ge | apply gf | apply gg | apply gh | apply gi | apply gj); conv => whnf) | (refine ⟨⟨rfl, rfl, nle rfl, nle rfl⟩, ?_⟩; conv => whnf) | fail)
    refine CallK.drop [69] (f19 ⟨0, [32768]⟩ ⟨by unfold inI64; decide, by decide, by decide⟩) ⟨agg2 .same (VLe.frzO (E := 39) (g := 0) (L := [32768]) rfl rfl (CellsA.row (fun i j hi hj => ?_) rfl rfl rfl) rfl), trivial⟩ ?_
    · have hj0 : j = 0 := Nat.lt_one_iff.mp hj
      subst hj0
      match i, hi with
      | 0, _ => exact .same
    rw [w3]
    conv => whnf
    repeat (first | ((with_reducible first | apply ga | apply gb | apply gc | apply gd | apply ge | apply gf | apply gg | apply gh | apply gi | apply gj); conv => whnf) | (refine ⟨⟨rfl, rfl, nle rfl, nle rfl⟩, ?_⟩; conv => whnf) | fail)
    repeat (refine ⟨⟨rfl, rfl, nle rfl, nle rfl⟩, ?_⟩; conv => whnf)
    repeat (first | ((with_reducible first | apply ga | apply gb | apply gc | apply gd | apply ge | apply gf | apply gg | apply gh | apply gi | apply gj); conv => whnf) | (refine ⟨⟨rfl, rfl, nle rfl, nle rfl⟩, ?_⟩; conv => whnf) | fail)
    exact hK _ trivial (SubS.mk [] rfl ⟨⟨_, rfl, .same⟩, ⟨_, rfl, .same⟩, ⟨_, rfl, .same⟩, ⟨_, rfl, .same⟩, trivial⟩ trivial)
  refine awp_pieceM tab_ok mixed (mkSt 202 [(1, bb true), (3, i64 3), (5, i64 13), (7, i64 3), (8, bb true)] []) True (fun K hK => ?_) (fun _ => ?_)
  · conv => whnf
    repeat (first | ((with_reducible first | apply ga | apply gb | apply gc | apply gd | apply ge | apply gf | apply gg | apply gh | apply gi | apply gj); conv => whnf) | (refine ⟨⟨rfl, rfl, nle rfl, nle rfl⟩, ?_⟩; conv => whnf) | fail)
    repeat (first | ((with_reducible first | apply ga | apply gb | apply gc | apply gd | apply ge | apply gf | apply gg | apply gh | apply gi | apply gj); conv => whnf) | (refine ⟨⟨rfl, rfl, nle rfl, nle rfl⟩, ?_⟩; conv => whnf) | (refine ⟨fun _ => ?_, fun h => absurd h (by decide)⟩; conv => whnf) | (refine ⟨fun h => absurd h (by decide), fun _ => ?_⟩; conv => whnf) | fail)
    exact hK _ trivial (SubS.mk [] rfl ⟨⟨_, rfl, .same⟩, ⟨_, rfl, .same⟩, ⟨_, rfl, .same⟩, ⟨_, rfl, .same⟩, ⟨_, rfl, .same⟩, trivial⟩ trivial)
  refine awp_pieceM tab_ok mixed (mkSt 202 [(1, bb true), (3, i64 3), (5, i64 13), (7, i64 3), (8, bb true), (10, i64 10)] []) True (fun K hK => ?_) (fun _ => ?_)
  · conv => whnf
    repeat (first | ((with_reducible first | apply ga | apply gb | apply gc | apply gd | apply ge | apply gf | apply gg | apply gh | apply gi | apply gj); conv => whnf) | (refine ⟨⟨rfl, rfl, nle rfl, nle rfl⟩, ?_⟩; conv => whnf) | fail)
    refine CallK.drop [86] (f25 [⟨1, []⟩] ⟨by decide, fun b hb => by rw [List.mem_singleton] at hb; subst hb; exact bk0 (by unfold inI64; decide)⟩ (by decide)) ⟨VLe.frzO (E := 35) (g := 0) (L := [(⟨1, []⟩ : BankR)]) rfl rfl (CellsA.row (CellsA.one fun j hj => ?_) rfl rfl rfl) rfl, trivial⟩ ?_
    · match j, hj with
      | 0, _ => exact .same
      | 1, _ => exact .nilA
    rw [w4]
    conv => whnf
    repeat (first | ((with_reducible first | apply ga | apply gb | apply gc | apply gd | apply ge | apply gf | apply gg | apply gh | apply gi | apply gj); conv => whnf) | (refine ⟨⟨rfl, rfl, nle rfl, nle rfl⟩, ?_⟩; conv => whnf) | fail)
    exact hK _ trivial (SubS.mk [] rfl ⟨⟨_, rfl, .same⟩, ⟨_, rfl, .same⟩, ⟨_, rfl, .same⟩, ⟨_, rfl, .same⟩, ⟨_, rfl, .same⟩, ⟨_, rfl, .same⟩, trivial⟩ trivial)
  refine awp_pieceM tab_ok mixed (mkSt 202 [(1, bb true), (3, i64 3), (5, i64 13), (7, i64 3), (8, bb true), (10, i64 10), (12, i64 8)] []) True (fun K hK => ?_) (fun _ => ?_)
  · conv => whnf
    repeat (first | ((with_reducible first | apply ga | apply gb | apply gc | apply gd | apply ge | apply gf | apply gg | apply gh | apply gi | apply gj); conv => whnf) | (refine ⟨⟨rfl, rfl, nle rfl, nle rfl⟩, ?_⟩; conv => whnf) | fail)
    refine CallK.drop [93] (f25 [b0, b0] ⟨by decide, fun b hb => by
      have : b = b0 := by simpa using hb
      subst this; exact bk0 (by unfold inI64; decide)⟩ (by decide)) ⟨VLe.frzO (E := 35) (g := 0) (L := [b0, b0]) rfl rfl (CellsA.row (fun i j hi hj => ?_) rfl rfl rfl) rfl, trivial⟩ ?_
    · match i, hi, j, hj with
      | 0, _, 0, _ => exact .same
      | 0, _, 1, _ => exact .nilA
      | 1, _, 0, _ => exact .same
      | 1, _, 1, _ => exact .nilA
    rw [w5]
    conv => whnf
    repeat (first | ((with_reducible first | apply ga | apply gb | apply gc | apply gd | apply ge | apply gf | apply gg | apply gh | apply gi | apply gj); conv => whnf) | (refine ⟨⟨rfl, rfl, nle rfl, nle rfl⟩, ?_⟩; conv => whnf) | fail)
    exact hK _ trivial (SubS.mk [] rfl ⟨⟨_, rfl, .same⟩, ⟨_, rfl, .same⟩, ⟨_, rfl, .same⟩, ⟨_, rfl, .same⟩, ⟨_, rfl, .same⟩, ⟨_, rfl, .same⟩, ⟨_, rfl, .same⟩, trivial⟩ trivial)
  refine awp_pieceM tab_ok mixed (mkSt 202 [(1, bb true), (3, i64 3), (5, i64 13), (7, i64 3), (8, bb true), (10, i64 10), (12, i64 8), (14, i64 4)] []) True (fun K hK => ?_) (fun _ => ?_)
  · conv => whnf
    repeat (first | ((with_reducible first | apply ga | apply gb | apply gc | apply gd | apply ge | apply gf | apply gg | apply gh | apply gi | apply gj); conv => whnf) | (refine ⟨⟨rfl, rfl, nle rfl, nle rfl⟩, ?_⟩; conv => whnf) | fail)
    refine ⟨⟨by omega, by omega, by omega, by decide⟩, ?_⟩
    conv => whnf
    repeat (first | ((with_reducible first | apply ga | apply gb | apply gc | apply gd | apply ge | apply gf | apply gg | apply gh | apply gi | apply gj); conv => whnf) | (refine ⟨⟨rfl, rfl, nle rfl, nle rfl⟩, ?_⟩; conv => whnf) | fail)
    refine CallK.drop [100, 98] (f25 [⟨0, zW 1025⟩] ⟨by decide, fun b hb => by rw [List.mem_singleton] at hb; subst hb; exact ⟨by unfold inI64; decide, zW_wb (by decide)⟩⟩ (by decide)) ⟨VLe.frzO (E := 35) (g := 0) (L := [(⟨0, zW 1025⟩ : BankR)]) rfl rfl (CellsA.row (CellsA.one fun j hj => ?_) rfl rfl rfl) rfl, trivial⟩ ?_
    · match j, hj with
      | 0, _ => exact .same
      | 1, _ =>
        refine VLe.frzO (E := 39) (g := 0) (L := zW 1025) rfl rfl ⟨rfl, rfl, rfl, ?_, fun a b ha hb => ?_⟩ (zW_len 1025).symm
        · show (zW 1025).length ≤ _
          rw [zW_len]; exact Nat.le_refl _
        · have hb0 : b = 0 := Nat.lt_one_iff.mp hb
          subst hb0
          show VLe _ _ _ _ (.pv (wcell ((zW 1025).getD a 0) 0))
          rw [zW_getD]; exact .same
    rw [w6]
    conv => whnf
    repeat (first | ((with_reducible first | apply ga | apply gb | apply gc | apply gd | apply ge | apply gf | apply gg | apply gh | apply gi | apply gj); conv => whnf) | (refine ⟨⟨rfl, rfl, nle rfl, nle rfl⟩, ?_⟩; conv => whnf) | fail)
    exact hK _ trivial (SubS.mk [] rfl ⟨⟨_, rfl, .same⟩, ⟨_, rfl, .same⟩, ⟨_, rfl, .same⟩, ⟨_, rfl, .same⟩, ⟨_, rfl, .same⟩, ⟨_, rfl, .same⟩, ⟨_, rfl, .same⟩, ⟨_, rfl, .same⟩, trivial⟩ trivial)
  refine awp_pieceM tab_ok mixed (mkSt 202 [(1, bb true), (3, i64 3), (5, i64 13), (7, i64 3), (8, bb true), (10, i64 10), (12, i64 8), (14, i64 4), (16, i64 3)] []) True (fun K hK => ?_) (fun _ => ?_)
  · conv => whnf
    repeat (first | ((with_reducible first | apply ga | apply gb | apply gc | apply gd | apply ge | apply gf | apply gg | apply gh | apply gi | apply gj); conv => whnf) | (refine ⟨⟨rfl, rfl, nle rfl, nle rfl⟩, ?_⟩; conv => whnf) | fail)
    refine CallK.drop [106] (f25 [⟨-1, []⟩] ⟨by decide, fun b hb => by rw [List.mem_singleton] at hb; subst hb; exact bk0 (by unfold inI64; decide)⟩ (by decide)) ⟨VLe.frzO (E := 35) (g := 0) (L := [(⟨-1, []⟩ : BankR)]) rfl rfl (CellsA.row (CellsA.one fun j hj => ?_) rfl rfl rfl) rfl, trivial⟩ ?_
    · match j, hj with
      | 0, _ => exact .same
      | 1, _ => exact .nilA
    rw [w7]
    conv => whnf
    repeat (first | ((with_reducible first | apply ga | apply gb | apply gc | apply gd | apply ge | apply gf | apply gg | apply gh | apply gi | apply gj); conv => whnf) | (refine ⟨⟨rfl, rfl, nle rfl, nle rfl⟩, ?_⟩; conv => whnf) | fail)
    exact hK _ trivial (SubS.mk [] rfl ⟨⟨_, rfl, .same⟩, ⟨_, rfl, .same⟩, ⟨_, rfl, .same⟩, ⟨_, rfl, .same⟩, ⟨_, rfl, .same⟩, ⟨_, rfl, .same⟩, ⟨_, rfl, .same⟩, ⟨_, rfl, .same⟩, ⟨_, rfl, .same⟩, trivial⟩ trivial)
  refine awp_pieceM tab_ok mixed (mkSt 202 [(1, bb true), (3, i64 3), (5, i64 13), (7, i64 3), (8, bb true), (10, i64 10), (12, i64 8), (14, i64 4), (16, i64 3), (17, bb true)] []) True (fun K hK => ?_) (fun _ => ?_)
  · conv => whnf
    repeat (first | ((with_reducible first | apply ga | apply gb | apply gc | apply gd | apply ge | apply gf | apply gg | apply gh | apply gi | apply gj); conv => whnf) | (refine ⟨⟨rfl, rfl, nle rfl, nle rfl⟩, ?_⟩; conv => whnf) | fail)
    repeat (first | ((with_reducible first | apply ga | apply gb | apply gc | apply gd | apply ge | apply gf | apply gg | apply gh | apply gi | apply gj); conv => whnf) | (refine ⟨⟨rfl, rfl, nle rfl, nle rfl⟩, ?_⟩; conv => whnf) | (refine ⟨fun _ => ?_, fun h => absurd h (by decide)⟩; conv => whnf) | (refine ⟨fun h => absurd h (by decide), fun _ => ?_⟩; conv => whnf) | fail)
    exact hK _ trivial (SubS.mk [] rfl ⟨⟨_, rfl, .same⟩, ⟨_, rfl, .same⟩, ⟨_, rfl, .same⟩, ⟨_, rfl, .same⟩, ⟨_, rfl, .same⟩, ⟨_, rfl, .same⟩, ⟨_, rfl, .same⟩, ⟨_, rfl, .same⟩, ⟨_, rfl, .same⟩, ⟨_, rfl, .same⟩, trivial⟩ trivial)
  refine awp_pieceM tab_ok mixed (mkSt 202 [(1, bb true), (3, i64 3), (5, i64 13), (7, i64 3), (8, bb true), (10, i64 10), (12, i64 8), (14, i64 4), (16, i64 3), (17, bb true), (19, i64 6), (20, i64 5)] []) True (fun K hK => ?_) (fun _ => ?_)
  · conv => whnf
    repeat (first | ((with_reducible first | apply ga | apply gb | apply gc | apply gd | apply ge | apply gf | apply gg | apply gh | apply gi | apply gj); conv => whnf) | (refine ⟨⟨rfl, rfl, nle rfl, nle rfl⟩, ?_⟩; conv => whnf) | fail)
    refine CallK.drop [125] (f27 [80, 82, 76, 49, 128, 0, 0] ⟨by decide, by decide⟩) ⟨VLe.frzO (E := 5) (g := 0) (L := [80, 82, 76, 49, 128, 0, 0]) rfl rfl (CellsA.row (fun i j hi hj => ?_) rfl rfl rfl) rfl, trivial⟩ ?_
    · have hj0 : j = 0 := Nat.lt_one_iff.mp hj
      subst hj0
      match i, hi with
      | 0, _ => exact .same
      | 1, _ => exact .same
      | 2, _ => exact .same
      | 3, _ => exact .same
      | 4, _ => exact .same
      | 5, _ => exact .same
      | 6, _ => exact .same
    rw [w8']
    conv => whnf
    repeat (first | ((with_reducible first | apply ga | apply gb | apply gc | apply gd | apply ge | apply gf | apply gg | apply gh | apply gi | apply gj); conv => whnf) | (refine ⟨⟨rfl, rfl, nle rfl, nle rfl⟩, ?_⟩; conv => whnf) | fail)
    exact hK _ trivial (SubS.mk [] rfl ⟨⟨_, rfl, .same⟩, ⟨_, rfl, .same⟩, ⟨_, rfl, .same⟩, ⟨_, rfl, .same⟩, ⟨_, rfl, .same⟩, ⟨_, rfl, .same⟩, ⟨_, rfl, .same⟩, ⟨_, rfl, .same⟩, ⟨_, rfl, .same⟩, ⟨_, rfl, .same⟩, ⟨_, rfl, .same⟩, ⟨_, rfl, .same⟩, trivial⟩ trivial)
  refine awp_pieceM tab_ok mixed (mkSt 202 [(1, bb true), (3, i64 3), (5, i64 13), (7, i64 3), (8, bb true), (10, i64 10), (12, i64 8), (14, i64 4), (16, i64 3), (17, bb true), (19, i64 6), (20, i64 5), (22, i64 4), (23, i64 11)] []) True (fun K hK => ?_) (fun _ => ?_)
  · conv => whnf
    repeat (first | ((with_reducible first | apply ga | apply gb | apply gc | apply gd | apply ge | apply gf | apply gg | apply gh | apply gi | apply gj); conv => whnf) | (refine ⟨⟨rfl, rfl, nle rfl, nle rfl⟩, ?_⟩; conv => whnf) | fail)
    refine CallK.drop [132] (f27 [80, 82, 76, 49, 0, 0] ⟨by decide, by decide⟩) ⟨VLe.frzO (E := 5) (g := 0) (L := [80, 82, 76, 49, 0, 0]) rfl rfl (CellsA.row (fun i j hi hj => ?_) rfl rfl rfl) rfl, trivial⟩ ?_
    · have hj0 : j = 0 := Nat.lt_one_iff.mp hj
      subst hj0
      match i, hi with
      | 0, _ => exact .same
      | 1, _ => exact .same
      | 2, _ => exact .same
      | 3, _ => exact .same
      | 4, _ => exact .same
      | 5, _ => exact .same
    rw [w9]
    conv => whnf
    repeat (first | ((with_reducible first | apply ga | apply gb | apply gc | apply gd | apply ge | apply gf | apply gg | apply gh | apply gi | apply gj); conv => whnf) | (refine ⟨⟨rfl, rfl, nle rfl, nle rfl⟩, ?_⟩; conv => whnf) | fail)
    exact hK _ trivial (SubS.mk [] rfl ⟨⟨_, rfl, .same⟩, ⟨_, rfl, .same⟩, ⟨_, rfl, .same⟩, ⟨_, rfl, .same⟩, ⟨_, rfl, .same⟩, ⟨_, rfl, .same⟩, ⟨_, rfl, .same⟩, ⟨_, rfl, .same⟩, ⟨_, rfl, .same⟩, ⟨_, rfl, .same⟩, ⟨_, rfl, .same⟩, ⟨_, rfl, .same⟩, ⟨_, rfl, .same⟩, ⟨_, rfl, .same⟩, trivial⟩ trivial)
  refine awp_pieceM tab_ok mixed (mkSt 202 [(1, bb true), (3, i64 3), (5, i64 13), (7, i64 3), (8, bb true), (10, i64 10), (12, i64 8), (14, i64 4), (16, i64 3), (17, bb true), (19, i64 6), (20, i64 5), (22, i64 4), (23, i64 11), (25, i64 2), (26, i64 5)] []) True (fun K hK => ?_) (fun _ => ?_)
  · conv => whnf
    repeat (first | ((with_reducible first | apply ga | apply gb | apply gc | apply gd | apply ge | apply gf | apply gg | apply gh | apply gi | apply gj); conv => whnf) | (refine ⟨⟨rfl, rfl, nle rfl, nle rfl⟩, ?_⟩; conv => whnf) | fail)
    refine CallK.drop [139] (f27 [80, 82, 88, 49] ⟨by decide, by decide⟩) ⟨VLe.frzO (E := 5) (g := 0) (L := [80, 82, 88, 49]) rfl rfl (CellsA.row (fun i j hi hj => ?_) rfl rfl rfl) rfl, trivial⟩ ?_
    · have hj0 : j = 0 := Nat.lt_one_iff.mp hj
      subst hj0
      match i, hi with
      | 0, _ => exact .same
      | 1, _ => exact .same
      | 2, _ => exact .same
      | 3, _ => exact .same
    rw [w10]
    conv => whnf
    repeat (first | ((with_reducible first | apply ga | apply gb | apply gc | apply gd | apply ge | apply gf | apply gg | apply gh | apply gi | apply gj); conv => whnf) | (refine ⟨⟨rfl, rfl, nle rfl, nle rfl⟩, ?_⟩; conv => whnf) | fail)
    exact hK _ trivial (SubS.mk [] rfl ⟨⟨_, rfl, .same⟩, ⟨_, rfl, .same⟩, ⟨_, rfl, .same⟩, ⟨_, rfl, .same⟩, ⟨_, rfl, .same⟩, ⟨_, rfl, .same⟩, ⟨_, rfl, .same⟩, ⟨_, rfl, .same⟩, ⟨_, rfl, .same⟩, ⟨_, rfl, .same⟩, ⟨_, rfl, .same⟩, ⟨_, rfl, .same⟩, ⟨_, rfl, .same⟩, ⟨_, rfl, .same⟩, ⟨_, rfl, .same⟩, ⟨_, rfl, .same⟩, trivial⟩ trivial)
  refine awp_pieceM tab_ok mixed (mkSt 202 [(1, bb true), (3, i64 3), (5, i64 13), (7, i64 3), (8, bb true), (10, i64 10), (12, i64 8), (14, i64 4), (16, i64 3), (17, bb true), (19, i64 6), (20, i64 5), (22, i64 4), (23, i64 11), (25, i64 2), (26, i64 5), (28, i64 3)] []) True (fun K hK => ?_) (fun _ => ?_)
  · conv => whnf
    repeat (first | ((with_reducible first | apply ga | apply gb | apply gc | apply gd | apply ge | apply gf | apply gg | apply gh | apply gi | apply gj); conv => whnf) | (refine ⟨⟨rfl, rfl, nle rfl, nle rfl⟩, ?_⟩; conv => whnf) | fail)
    refine CallK.drop [147] (f16 [(36864, 0)] ⟨by decide, by unfold inI64; decide⟩ 0 1 0 (fun _ _ => .nilI)) ⟨agg2 (VLe.frzO (E := 65) (g := 0) (L := [((36864 : Int), 0)]) rfl rfl (CellsA.row (fun i j hi hj => ?_) rfl rfl rfl) rfl) (.nil _ _ _), trivial⟩ ?_
    · match i, hi, j, hj with
      | 0, _, 0, _ => exact .same
      | 0, _, 1, _ => exact .same
    rw [w11]
    conv => whnf
    repeat (first | ((with_reducible first | apply ga | apply gb | apply gc | apply gd | apply ge | apply gf | apply gg | apply gh | apply gi | apply gj); conv => whnf) | (refine ⟨⟨rfl, rfl, nle rfl, nle rfl⟩, ?_⟩; conv => whnf) | fail)
    exact hK _ trivial (SubS.mk [] rfl ⟨⟨_, rfl, .same⟩, ⟨_, rfl, .same⟩, ⟨_, rfl, .same⟩, ⟨_, rfl, .same⟩, ⟨_, rfl, .same⟩, ⟨_, rfl, .same⟩, ⟨_, rfl, .same⟩, ⟨_, rfl, .same⟩, ⟨_, rfl, .same⟩, ⟨_, rfl, .same⟩, ⟨_, rfl, .same⟩, ⟨_, rfl, .same⟩, ⟨_, rfl, .same⟩, ⟨_, rfl, .same⟩, ⟨_, rfl, .same⟩, ⟨_, rfl, .same⟩, ⟨_, rfl, .same⟩, trivial⟩ trivial)
  refine awp_pieceM tab_ok mixed (mkSt 202 [(1, bb true), (3, i64 3), (5, i64 13), (7, i64 3), (8, bb true), (10, i64 10), (12, i64 8), (14, i64 4), (16, i64 3), (17, bb true), (19, i64 6), (20, i64 5), (22, i64 4), (23, i64 11), (25, i64 2), (26, i64 5), (28, i64 3), (30, i64 8)] []) True (fun K hK => ?_) (fun _ => ?_)
  · conv => whnf
    repeat (first | ((with_reducible first | apply ga | apply gb | apply gc | apply gd | apply ge | apply gf | apply gg | apply gh | apply gi | apply gj); conv => whnf) | (refine ⟨⟨rfl, rfl, nle rfl, nle rfl⟩, ?_⟩; conv => whnf) | fail)
    refine CallK.drop [155] (f16 [(5, 0), (5, 0)] ⟨by decide, by unfold inI64; decide⟩ 0 1 0 (fun _ _ => .nilI)) ⟨agg2 (VLe.frzO (E := 65) (g := 0) (L := [((5 : Int), 0), (5, 0)]) rfl rfl (CellsA.row (fun i j hi hj => ?_) rfl rfl rfl) rfl) (.nil _ _ _), trivial⟩ ?_
    · match i, hi, j, hj with
      | 0, _, 0, _ => exact .same
      | 0, _, 1, _ => exact .same
      | 1, _, 0, _ => exact .same
      | 1, _, 1, _ => exact .same
    rw [w12]
    conv => whnf
    repeat (first | ((with_reducible first | apply ga | apply gb | apply gc | apply gd | apply ge | apply gf | apply gg | apply gh | apply gi | apply gj); conv => whnf) | (refine ⟨⟨rfl, rfl, nle rfl, nle rfl⟩, ?_⟩; conv => whnf) | fail)
    exact hK _ trivial (SubS.mk [] rfl ⟨⟨_, rfl, .same⟩, ⟨_, rfl, .same⟩, ⟨_, rfl, .same⟩, ⟨_, rfl, .same⟩, ⟨_, rfl, .same⟩, ⟨_, rfl, .same⟩, ⟨_, rfl, .same⟩, ⟨_, rfl, .same⟩, ⟨_, rfl, .same⟩, ⟨_, rfl, .same⟩, ⟨_, rfl, .same⟩, ⟨_, rfl, .same⟩, ⟨_, rfl, .same⟩, ⟨_, rfl, .same⟩, ⟨_, rfl, .same⟩, ⟨_, rfl, .same⟩, ⟨_, rfl, .same⟩, ⟨_, rfl, .same⟩, trivial⟩ trivial)
  refine awp_last tab_ok mixed ?_
  conv => whnf
  repeat (first | ((with_reducible first | apply ga | apply gb | apply gc | apply gd | apply ge | apply gf | apply gg | apply gh | apply gi | apply gj); conv => whnf) | (refine ⟨⟨rfl, rfl, nle rfl, nle rfl⟩, ?_⟩; conv => whnf) | fail)
  refine CallK.flat [] f15 trivial rfl ?_
  conv => whnf
  repeat (first | ((with_reducible first | apply ga | apply gb | apply gc | apply gd | apply ge | apply gf | apply gg | apply gh | apply gi | apply gj); conv => whnf) | (refine ⟨⟨rfl, rfl, nle rfl, nle rfl⟩, ?_⟩; conv => whnf) | fail)
  repeat (first | ((with_reducible first | apply ga | apply gb | apply gc | apply gd | apply ge | apply gf | apply gg | apply gh | apply gi | apply gj); conv => whnf) | (refine ⟨⟨rfl, rfl, nle rfl, nle rfl⟩, ?_⟩; conv => whnf) | (refine ⟨fun _ => ?_, fun h => absurd h (by decide)⟩; conv => whnf) | (refine ⟨fun h => absurd h (by decide), fun _ => ?_⟩; conv => whnf) | fail)
  exact done_bool _ _ rfl rfl rfl
end Go.Proofs.Ytioccpodnkllfaa
