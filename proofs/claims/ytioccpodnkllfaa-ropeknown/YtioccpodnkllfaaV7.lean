/- Part of the proof: what the functions that the law calls compute (7). -/
import Derived.Test.YtioccpodnkllfaaV6
namespace Go.Proofs.Ytioccpodnkllfaa
open Go Go.AM
attribute [local irreducible] AWP CallK PureCall SubS HeapCall HeapCallP HeapCallK
theorem takeLe {H : Heap} {B : List Nat} {U : List (Nat × Nat)} {E n k : Nat} {L : List Nat} (h : n = k) (hk : k ≤ L.length) : VLe H B U (.pv (.seq E 1 n fun i j => bcell (L.getD i 0) j)) (.pv (bytesP (L.take k))) := by
  have e : n = (L.take k).length := by rw [List.length_take]; omega
  subst e
  refine .pv _ _ (.seq _ _ _ _ _ _ fun i j hi hj => ?_)
  rw [List.length_take] at hi
  rw [take_getD (by omega)]
  exact .refl _
theorem f13 (l : List BankR) (h : BsB l) (n : Nat) (hn : n < 4294967296) (M : List Nat) (hM : BtB M) (hMl : M.length ≤ 1048576) : PureCall Try.prog 13 [.pv (banksP l), u32 n, .pv (bytesP M)] (bb true) := by
  obtain ⟨hB, hL1, hL2⟩ := packB_some l
  refine PureCall.run tab_ok mixed (by kernel_rfl) Try.func13 rfl rfl rfl ?_
  conv => whnf
  repeat (first | ((with_reducible first | apply ga | apply gb | apply gc | apply gd | apply ge | apply gf | apply gg | apply gh | apply gi | apply gj); conv => whnf) | (refine ⟨⟨rfl, rfl, nle rfl, nle rfl⟩, ?_⟩; conv => whnf) | fail)
  refine CallK.drop [] (f29 l h) ⟨.same, trivial⟩ ?_
  conv => whnf
  repeat (first | ((with_reducible first | apply ga | apply gb | apply gc | apply gd | apply ge | apply gf | apply gg | apply gh | apply gi | apply gj); conv => whnf) | (refine ⟨⟨rfl, rfl, nle rfl, nle rfl⟩, ?_⟩; conv => whnf) | fail)
  refine CallK.drop [] (c25 l) ⟨.same, trivial⟩ ?_
  conv => whnf
  repeat (first | ((with_reducible first | apply ga | apply gb | apply gc | apply gd | apply ge | apply gf | apply gg | apply gh | apply gi | apply gj); conv => whnf) | (refine ⟨⟨rfl, rfl, nle rfl, nle rfl⟩, ?_⟩; conv => whnf) | fail)
  refine ⟨fun _ => ?_, fun h => absurd h (by simp)⟩
  conv => whnf
  repeat (first | ((with_reducible first | apply ga | apply gb | apply gc | apply gd | apply ge | apply gf | apply gg | apply gh | apply gi | apply gj); conv => whnf) | (refine ⟨⟨rfl, rfl, nle rfl, nle rfl⟩, ?_⟩; conv => whnf) | fail)
  refine ⟨fun h => absurd h (by rw [beq_iff_eq]; omega), fun _ => ?_⟩
  conv => whnf
  repeat (first | ((with_reducible first | apply ga | apply gb | apply gc | apply gd | apply ge | apply gf | apply gg | apply gh | apply gi | apply gj); conv => whnf) | (refine ⟨⟨rfl, rfl, nle rfl, nle rfl⟩, ?_⟩; conv => whnf) | fail)
  refine ⟨⟨by omega⟩, ?_⟩
  conv => whnf
  repeat (first | ((with_reducible first | apply ga | apply gb | apply gc | apply gd | apply ge | apply gf | apply gg | apply gh | apply gi | apply gj); conv => whnf) | (refine ⟨⟨rfl, rfl, nle rfl, nle rfl⟩, ?_⟩; conv => whnf) | fail)
  obtain ⟨k, hk, hk2⟩ : ∃ k : Nat, (IntKind.i64.wrap (n : Int)).tmod ((packB (someL l)).length : Int) = (k : Int) ∧ k < (packB (someL l)).length := by
    refine ⟨n % (packB (someL l)).length, ?_, Nat.mod_lt _ (by omega)⟩
    rw [wi64 (by omega) (by omega), Int.tmod_eq_emod_of_nonneg (by omega)]
    exact (Int.natCast_emod _ _).symm
  rw [hk]
  refine ⟨⟨by omega, by omega, rfl⟩, ?_⟩
  conv => whnf
  repeat (first | ((with_reducible first | apply ga | apply gb | apply gc | apply gd | apply ge | apply gf | apply gg | apply gh | apply gi | apply gj); conv => whnf) | (refine ⟨⟨rfl, rfl, nle rfl, nle rfl⟩, ?_⟩; conv => whnf) | fail)
  have cu : PureCall Try.prog 27 [.pv (bytesP ((packB (someL l)).take k))] (tupV [.pv (banksP []), i64 k, i64 9]) := by
    have c := f27 ((packB (someL l)).take k) ⟨by rw [List.length_take]; omega, fun x hx => hB.2 x (List.mem_of_mem_take hx)⟩
    rw [unpack_cut (unpack_some l) hk2] at c
    exact c
  have ek : (k : Int).toNat = k := Int.toNat_natCast k
  refine CallK.drop [] cu ⟨takeLe ek (by omega), trivial⟩ ?_
  conv => whnf
  repeat (first | ((with_reducible first | apply ga | apply gb | apply gc | apply gd | apply ge | apply gf | apply gg | apply gh | apply gi | apply gj); conv => whnf) | (refine ⟨⟨rfl, rfl, nle rfl, nle rfl⟩, ?_⟩; conv => whnf) | fail)
  refine ⟨fun _ => ?_, fun h => absurd h (by simp)⟩
  conv => whnf
  repeat (first | ((with_reducible first | apply ga | apply gb | apply gc | apply gd | apply ge | apply gf | apply gg | apply gh | apply gi | apply gj); conv => whnf) | (refine ⟨⟨rfl, rfl, nle rfl, nle rfl⟩, ?_⟩; conv => whnf) | fail)
  refine ⟨fun _ => ?_, fun h => absurd h (by simp)⟩
  conv => whnf
  repeat (first | ((with_reducible first | apply ga | apply gb | apply gc | apply gd | apply ge | apply gf | apply gg | apply gh | apply gi | apply gj); conv => whnf) | (refine ⟨⟨rfl, rfl, nle rfl, nle rfl⟩, ?_⟩; conv => whnf) | fail)
  refine ⟨fun h => absurd h (by simp), fun _ => ?_⟩
  conv => whnf
  repeat (first | ((with_reducible first | apply ga | apply gb | apply gc | apply gd | apply ge | apply gf | apply gg | apply gh | apply gi | apply gj); conv => whnf) | (refine ⟨⟨rfl, rfl, nle rfl, nle rfl⟩, ?_⟩; conv => whnf) | fail)
  refine ⟨fun hm => ?_, fun hm => ?_⟩ <;> replace hm := nm hm <;> (try rw [Int.toNat_zero] at hm) <;> (try rw [Int.toNat_one] at hm)
  · conv => whnf
    repeat (first | ((with_reducible first | apply ga | apply gb | apply gc | apply gd | apply ge | apply gf | apply gg | apply gh | apply gi | apply gj); conv => whnf) | (refine ⟨⟨rfl, rfl, nle rfl, nle rfl⟩, ?_⟩; conv => whnf) | fail)
    refine CallK.flat [] f15 trivial rfl ?_
    conv => whnf
    repeat (first | ((with_reducible first | apply ga | apply gb | apply gc | apply gd | apply ge | apply gf | apply gg | apply gh | apply gi | apply gj); conv => whnf) | (refine ⟨⟨rfl, rfl, nle rfl, nle rfl⟩, ?_⟩; conv => whnf) | fail)
    exact done_bool _ _ rfl rfl rfl
  · conv => whnf
    repeat (first | ((with_reducible first | apply ga | apply gb | apply gc | apply gd | apply ge | apply gf | apply gg | apply gh | apply gi | apply gj); conv => whnf) | (refine ⟨⟨rfl, rfl, nle rfl, nle rfl⟩, ?_⟩; conv => whnf) | fail)
    refine ⟨⟨rfl, rfl, rfl, rfl, rfl, rfl, rfl, by show (0 + (packB (someL l)).length) * 1 ≤ _; omega⟩, ?_⟩
    conv => whnf
    repeat (first | ((with_reducible first | apply ga | apply gb | apply gc | apply gd | apply ge | apply gf | apply gg | apply gh | apply gi | apply gj); conv => whnf) | (refine ⟨⟨rfl, rfl, nle rfl, nle rfl⟩, ?_⟩; conv => whnf) | fail)
    refine ⟨⟨rfl, rfl, rfl, rfl, rfl, rfl, rfl, by show (0 + (packB (someL l)).length + M.length) * 1 ≤ _; omega⟩, ?_⟩
    conv => whnf
    repeat (first | ((with_reducible first | apply ga | apply gb | apply gc | apply gd | apply ge | apply gf | apply gg | apply gh | apply gi | apply gj); conv => whnf) | (refine ⟨⟨rfl, rfl, nle rfl, nle rfl⟩, ?_⟩; conv => whnf) | fail)
    have hMp : 0 < M.length := by omega
    have cv : PureCall Try.prog 27 [.pv (bytesP ([] ++ packB (someL l) ++ M))] (tupV [.pv (banksP []), i64 (packB (someL l)).length, i64 5]) := by
      rw [List.nil_append]
      have c := f27 (packB (someL l) ++ M) ⟨by rw [List.length_append]; omega, fun x hx => by
        rcases List.mem_append.mp hx with hx | hx
        · exact hB.2 x hx
        · exact hM.2 x hx⟩
      rw [unpack_fwd (someL_len l) (someL_pack l) M, if_pos hMp] at c
      exact c
    refine CallK.drop [59] cv ⟨VLe.frzO (E := 5) (g := 2) (L := [] ++ packB (someL l) ++ M) rfl rfl ?_ ?_, trivial⟩ ?_
    · dsimp only
      refine CellsA.row (CellsA.cat (CellsA.cat (L := []) ?_ ?_ ?_) ?_ ?_) rfl rfl ?_
      all_goals first
        | (intro i j hi hj; exact absurd hi (Nat.not_lt_zero i))
        | (intro i j hi hj; have hj0 : j = 0 := Nat.lt_one_iff.mp hj; subst hj0; exact .same)
        | rfl
        | simp
    · simp
    conv => whnf
    repeat (first | ((with_reducible first | apply ga | apply gb | apply gc | apply gd | apply ge | apply gf | apply gg | apply gh | apply gi | apply gj); conv => whnf) | (refine ⟨⟨rfl, rfl, nle rfl, nle rfl⟩, ?_⟩; conv => whnf) | fail)
    refine ⟨fun _ => ?_, fun h => absurd h (by simp)⟩
    conv => whnf
    repeat (first | ((with_reducible first | apply ga | apply gb | apply gc | apply gd | apply ge | apply gf | apply gg | apply gh | apply gi | apply gj); conv => whnf) | (refine ⟨⟨rfl, rfl, nle rfl, nle rfl⟩, ?_⟩; conv => whnf) | fail)
    refine ⟨fun _ => ?_, fun h => absurd h (by simp)⟩
    conv => whnf
    repeat (first | ((with_reducible first | apply ga | apply gb | apply gc | apply gd | apply ge | apply gf | apply gg | apply gh | apply gi | apply gj); conv => whnf) | (refine ⟨⟨rfl, rfl, nle rfl, nle rfl⟩, ?_⟩; conv => whnf) | fail)
    refine ⟨fun _ => ?_, fun h => absurd h (by simp)⟩
    conv => whnf
    repeat (first | ((with_reducible first | apply ga | apply gb | apply gc | apply gd | apply ge | apply gf | apply gg | apply gh | apply gi | apply gj); conv => whnf) | (refine ⟨⟨rfl, rfl, nle rfl, nle rfl⟩, ?_⟩; conv => whnf) | fail)
    refine CallK.flat [] f15 trivial rfl ?_
    conv => whnf
    repeat (first | ((with_reducible first | apply ga | apply gb | apply gc | apply gd | apply ge | apply gf | apply gg | apply gh | apply gi | apply gj); conv => whnf) | (refine ⟨⟨rfl, rfl, nle rfl, nle rfl⟩, ?_⟩; conv => whnf) | fail)
    exact done_bool _ _ rfl rfl rfl
end Go.Proofs.Ytioccpodnkllfaa

namespace Go.AM
open Go Go.RowKit
theorem seq_len {P : Program} {t e : TypeId} (ht : P.underlying t = some (.slice e)) {H : Type} {enc : TypeId × Value → H} {w : World} {sp : Nat → Bool} {v : Value} {dd : DataW H} {ps : List MemPlace} (hd : DataW.Trod enc P w 0 sp true t v dd ps)
    {E sz n : Nat} {f : Nat → Nat → PV} (hr : ∀ φ, Ra φ w (oldB w) (.pv (.seq E sz n f)) v) : n = 0 ∨ ∃ elems spare, dd = .slice elems spare ∧ elems.length = n := by
  obtain ⟨fuel, hf⟩ := hd
  have hp : Rp w (oldB w) (.seq E sz n f) v := by
    cases hr noNames with
    | pv _ _ h => exact h
  cases hp with
  | seq0 => exact .inl rfl
  | seq _ _ _ _ b o c g _ _ _ _ _ =>
    refine .inr ?_
    rcases Deep.open_slice ht hf with ⟨h1, _⟩ | ⟨a, len, cap, m, k, D, Pl, h1, _, _, _, _, h2, _⟩
    · have h1 : [Value.slice (some ⟨b, o, none⟩) n c] = [Value.slice none 0 0] := h1
      cases h1
    · have h1 : [Value.slice (some ⟨b, o, none⟩) n c] = [Value.slice (some a) len cap] := h1
      injection h1 with h1 _
      injection h1 with _ h1 _
      subst h1
      injection h2 with h2 _
      exact ⟨_, _, h2, by simp⟩
end Go.AM
