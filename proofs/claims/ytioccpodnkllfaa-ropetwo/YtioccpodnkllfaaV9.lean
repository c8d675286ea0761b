/- Part of the proof: what the functions that the law calls compute (9). -/
import Derived.Test.YtioccpodnkllfaaV8
namespace Go.Proofs.Ytioccpodnkllfaa
open Go Go.AM
attribute [local irreducible] AWP CallK PureCall SubS HeapCall HeapCallP HeapCallK
set_option maxHeartbeats 1000000 in
theorem f19h (b : BankR) (hB : BankB b) (hn : 0 ≤ b.num ∧ b.num ≤ 35) (hw : b.ws.length < 1024) (hv : validW b.ws = true) : HeapCall Try.prog 19 [b.av] []
    (fun r Hout => r = tupV [.agg 2 (getL [i64 b.num, .row 200 2 1 0 (b.ws.length + 1)]), i64 0] ∧ Hout = [(200, rowA 39 1 wcell 0 2 ([] ++ b.ws ++ [lastW b]))]) := by
  have hs := sum_lt b.ws 0 (by decide)
  have c1 := f37 b.num
  rw [show numB b.num = true by unfold numB; rw [decide_eq_true hn.1, decide_eq_true hn.2]; rfl] at c1
  have c2 := f38 b.ws hB.2
  rw [hv] at c2
  refine HeapCall.run tab_ok mixed (by kernel_rfl) Try.func19 rfl rfl rfl ?_
  conv => whnf
  repeat (first | ((with_reducible first | apply ga | apply gb | apply gc | apply gd | apply ge | apply gf | apply gg | apply gh | apply gi | apply gj); conv => whnf) | (refine ⟨⟨rfl, rfl, nle rfl, nle rfl⟩, ?_⟩; conv => whnf) | fail)
  refine CallK.flat [] c1 ⟨.same, trivial⟩ rfl ?_
  conv => whnf
  repeat (first | ((with_reducible first | apply ga | apply gb | apply gc | apply gd | apply ge | apply gf | apply gg | apply gh | apply gi | apply gj); conv => whnf) | (refine ⟨⟨rfl, rfl, nle rfl, nle rfl⟩, ?_⟩; conv => whnf) | fail)
  refine ⟨fun h => absurd h (by simp; omega), fun _ => ?_⟩
  conv => whnf
  repeat (first | ((with_reducible first | apply ga | apply gb | apply gc | apply gd | apply ge | apply gf | apply gg | apply gh | apply gi | apply gj); conv => whnf) | (refine ⟨⟨rfl, rfl, nle rfl, nle rfl⟩, ?_⟩; conv => whnf) | fail)
  refine CallK.flat [] c2 ⟨.same, trivial⟩ rfl ?_
  conv => whnf
  repeat (first | ((with_reducible first | apply ga | apply gb | apply gc | apply gd | apply ge | apply gf | apply gg | apply gh | apply gi | apply gj); conv => whnf) | (refine ⟨⟨rfl, rfl, nle rfl, nle rfl⟩, ?_⟩; conv => whnf) | fail)
  refine CallK.flat [] (f39 b.num (by omega) (by omega)) ⟨.same, trivial⟩ rfl ?_
  conv => whnf
  repeat (first | ((with_reducible first | apply ga | apply gb | apply gc | apply gd | apply ge | apply gf | apply gg | apply gh | apply gi | apply gj); conv => whnf) | (refine ⟨⟨rfl, rfl, nle rfl, nle rfl⟩, ?_⟩; conv => whnf) | fail)
  refine ⟨fun h => absurd h (by simp), fun _ => ?_⟩
  conv => whnf
  repeat (first | ((with_reducible first | apply ga | apply gb | apply gc | apply gd | apply ge | apply gf | apply gg | apply gh | apply gi | apply gj); conv => whnf) | (refine ⟨⟨rfl, rfl, nle rfl, nle rfl⟩, ?_⟩; conv => whnf) | fail)
  refine ⟨⟨by unfold inI64; omega⟩, ?_⟩
  conv => whnf
  repeat (first | ((with_reducible first | apply ga | apply gb | apply gc | apply gd | apply ge | apply gf | apply gg | apply gh | apply gi | apply gj); conv => whnf) | (refine ⟨⟨rfl, rfl, nle rfl, nle rfl⟩, ?_⟩; conv => whnf) | fail)
  refine ⟨⟨by omega, by omega, by omega, by show ((b.ws.length : Int) + 1) * 2 ≤ _; omega⟩, ?_⟩
  conv => whnf
  repeat (first | ((with_reducible first | apply ga | apply gb | apply gc | apply gd | apply ge | apply gf | apply gg | apply gh | apply gi | apply gj); conv => whnf) | (refine ⟨⟨rfl, rfl, nle rfl, nle rfl⟩, ?_⟩; conv => whnf) | fail)
  refine ⟨⟨rfl, rfl, rfl, rfl, rfl, rfl, rfl, by show (0 + b.ws.length) * 2 ≤ _; omega⟩, ?_⟩
  conv => whnf
  repeat (first | ((with_reducible first | apply ga | apply gb | apply gc | apply gd | apply ge | apply gf | apply gg | apply gh | apply gi | apply gj); conv => whnf) | (refine ⟨⟨rfl, rfl, nle rfl, nle rfl⟩, ?_⟩; conv => whnf) | fail)
  refine CallK.flat [] (f21 b.ws hB.2) ⟨.same, trivial⟩ rfl ?_
  conv => whnf
  repeat (first | ((with_reducible first | apply ga | apply gb | apply gc | apply gd | apply ge | apply gf | apply gg | apply gh | apply gi | apply gj); conv => whnf) | (refine ⟨⟨rfl, rfl, nle rfl, nle rfl⟩, ?_⟩; conv => whnf) | fail)
  refine CallK.flat [] (f40 (sumW b.ws) hs) ⟨.same, trivial⟩ rfl ?_
  conv => whnf
  repeat (first | ((with_reducible first | apply ga | apply gb | apply gc | apply gd | apply ge | apply gf | apply gg | apply gh | apply gi | apply gj); conv => whnf) | (refine ⟨⟨rfl, rfl, nle rfl, nle rfl⟩, ?_⟩; conv => whnf) | fail)
  refine CallK.flat [] (f31 (ofW b.num) (neg (sumW b.ws)) (by have := ofW_lt (n := b.num) (by omega) (by omega); omega) (neg_lt _)) ⟨.same, .same, trivial⟩ rfl ?_
  conv => whnf
  repeat (first | ((with_reducible first | apply ga | apply gb | apply gc | apply gd | apply ge | apply gf | apply gg | apply gh | apply gi | apply gj); conv => whnf) | (refine ⟨⟨rfl, rfl, nle rfl, nle rfl⟩, ?_⟩; conv => whnf) | fail)
  refine ⟨⟨⟨rfl, rfl, rfl, nle rfl⟩, rfl, rfl, rfl, rfl, rfl, rfl, by show (0 + b.ws.length + 1) * 2 ≤ _; omega⟩, ?_⟩
  conv => whnf
  repeat (first | ((with_reducible first | apply ga | apply gb | apply gc | apply gd | apply ge | apply gf | apply gg | apply gh | apply gi | apply gj); conv => whnf) | (refine ⟨⟨rfl, rfl, nle rfl, nle rfl⟩, ?_⟩; conv => whnf) | fail)
  refine ⟨_, _, ⟨rfl, rfl⟩, SubS.mkN [] [(200, 39)] rfl rfl rfl ⟨⟨_, rfl, .tup _ _ _ fun i hi => ?_⟩, trivial⟩ ⟨.inl ⟨_, _, rfl, rfl, rfl, ?_⟩, trivial⟩⟩
  · match i, hi with
    | 0, _ => exact agg2 .same (.row _ _ _ _ _ _ _ _ _ rfl rfl rfl (by show 0 + b.ws.length + 1 = b.ws.length + 1; omega))
    | 1, _ => exact .same
  · generalize ASt.heap _ = G
    dsimp only
    refine CellsA.row (CellsA.cat (CellsA.cat (L := []) ?_ ?_ ?_) ?_ (CellsA.one ?_)) rfl rfl ?_
    all_goals first
      | (intro i j hi hj; exact absurd hi (Nat.not_lt_zero i))
      | (intro j hj; have hj0 : j = 0 := Nat.lt_one_iff.mp hj; subst hj0; exact .same)
      | (intro i j hi hj; exact .same)
      | rfl
      | simp
end Go.Proofs.Ytioccpodnkllfaa

namespace Go.Proofs.Ytioccpodnkllfaa
open Go Go.AM
attribute [local irreducible] AWP CallK PureCall SubS HeapCall HeapCallP HeapCallK
set_option maxHeartbeats 4000000 in
theorem f9 (b : BankR) (w : Nat) (hB : BankB b) (hw : w < 65536) : PureCall Try.prog 9 [b.av, u16 w] (bb true) := by
  have hl := hB.2.1
  by_cases hx : (sealR b).2 = 0
  · obtain ⟨hx1, hn, hlen, hv⟩ := sealR_seal hx
    have hL : ([] ++ b.ws ++ [lastW b]).length = b.ws.length + 1 := by simp
    have hlast := lastW_lt b
    have hsB : BankB ⟨b.num, [] ++ b.ws ++ [lastW b]⟩ := by
      have := sealR_ok hB
      rw [hx1] at this; exact this
    have hsl : sealedB ⟨b.num, [] ++ b.ws ++ [lastW b]⟩ = true := by
      have := sealed_seal hx
      rw [hx1] at this; exact this
    refine PureCall.body tab_ok (by kernel_rfl) Try.func9 rfl rfl rfl ?_
    refine awp_piece tab_ok mixed ?_
    conv => whnf
    repeat (first | ((with_reducible first | apply ga | apply gb | apply gc | apply gd | apply ge | apply gf | apply gg | apply gh | apply gi | apply gj); conv => whnf) | (refine ⟨⟨rfl, rfl, nle rfl, nle rfl⟩, ?_⟩; conv => whnf) | (refine AD.plain rfl ?_; conv => whnf) | fail)
    obtain ⟨X, hX⟩ : ∃ X, X = [] ++ b.ws ++ [lastW b] := ⟨_, rfl⟩
    rw [← hX] at hL hsB hsl
    refine awp_pieceM tab_ok mixed (mkSt 97 [(1, u16 w), (2, .ptr 2 0 2 0 0), (5, .ptr 5 0 2 0 0), (6, i64 0)] [(2, bkO b.num (.pv (wordsP b.ws))), (5, bkO b.num (.row 2200 2 1 0 (b.ws.length + 1))), (2200, rowA 39 1 wcell 0 2 X)]) True (fun K hK => ?_) (fun _ => ?_)
    conv => whnf
    repeat (first | ((with_reducible first | apply ga | apply gb | apply gc | apply gd | apply ge | apply gf | apply gg | apply gh | apply gi | apply gj); conv => whnf) | (refine ⟨⟨rfl, rfl, nle rfl, nle rfl⟩, ?_⟩; conv => whnf) | (refine AD.plain rfl ?_; conv => whnf) | fail)
    repeat (refine ⟨⟨rfl, rfl, nle rfl, nle rfl⟩, ?_⟩; conv => whnf)
    repeat (first | ((with_reducible first | apply ga | apply gb | apply gc | apply gd | apply ge | apply gf | apply gg | apply gh | apply gi | apply gj); conv => whnf) | (refine ⟨⟨rfl, rfl, nle rfl, nle rfl⟩, ?_⟩; conv => whnf) | (refine AD.plain rfl ?_; conv => whnf) | fail)
    refine CallK.heap (f19h b hB hn hlen hv) [] [] rfl rfl ⟨agg2 .same .same, trivial⟩ trivial 2000 rfl ?_
    rintro _ _ ⟨rfl, rfl⟩
    rw [← hX]
    conv => whnf
    repeat (first | ((with_reducible first | apply ga | apply gb | apply gc | apply gd | apply ge | apply gf | apply gg | apply gh | apply gi | apply gj); conv => whnf) | (refine ⟨⟨rfl, rfl, nle rfl, nle rfl⟩, ?_⟩; conv => whnf) | (refine AD.plain rfl ?_; conv => whnf) | fail)
    repeat (refine ⟨⟨rfl, rfl, nle rfl, nle rfl⟩, ?_⟩; conv => whnf)
    repeat (first | ((with_reducible first | apply ga | apply gb | apply gc | apply gd | apply ge | apply gf | apply gg | apply gh | apply gi | apply gj); conv => whnf) | (refine ⟨⟨rfl, rfl, nle rfl, nle rfl⟩, ?_⟩; conv => whnf) | (refine AD.plain rfl ?_; conv => whnf) | fail)
    exact hK _ trivial (SubS.mkN [] [(2, 2), (5, 5), (2200, 2200)] rfl rfl rfl ⟨⟨_, rfl, .same⟩, ⟨_, rfl, .ptr _ _ _ _ _ _ _ _ _ rfl rfl rfl rfl⟩, ⟨_, rfl, .ptr _ _ _ _ _ _ _ _ _ rfl rfl rfl rfl⟩, ⟨_, rfl, .same⟩, trivial⟩
      ⟨.inl ⟨_, _, rfl, rfl, rfl, bkLe rfl rfl rfl rfl .same .same⟩, .inl ⟨_, _, rfl, rfl, rfl, bkLe rfl rfl rfl rfl .same (.row _ _ _ _ _ _ _ _ _ rfl rfl rfl rfl)⟩, .inl ⟨_, _, rfl, rfl, rfl, .keepA⟩, trivial⟩)
    refine awp_piece tab_ok mixed ?_
    conv => whnf
    repeat (first | ((with_reducible first | apply ga | apply gb | apply gc | apply gd | apply ge | apply gf | apply gg | apply gh | apply gi | apply gj); conv => whnf) | (refine ⟨⟨rfl, rfl, nle rfl, nle rfl⟩, ?_⟩; conv => whnf) | (refine AD.plain rfl ?_; conv => whnf) | fail)
    refine ⟨fun h => absurd h (by simp), fun _ => ?_⟩
    conv => whnf
    repeat (first | ((with_reducible first | apply ga | apply gb | apply gc | apply gd | apply ge | apply gf | apply gg | apply gh | apply gi | apply gj); conv => whnf) | (refine ⟨⟨rfl, rfl, nle rfl, nle rfl⟩, ?_⟩; conv => whnf) | (refine AD.plain rfl ?_; conv => whnf) | fail)
    refine awp_piece tab_ok mixed ?_
    conv => whnf
    repeat (first | ((with_reducible first | apply ga | apply gb | apply gc | apply gd | apply ge | apply gf | apply gg | apply gh | apply gi | apply gj); conv => whnf) | (refine ⟨⟨rfl, rfl, nle rfl, nle rfl⟩, ?_⟩; conv => whnf) | (refine AD.plain rfl ?_; conv => whnf) | fail)
    repeat (refine ⟨⟨rfl, rfl, nle rfl, nle rfl⟩, ?_⟩; conv => whnf)
    repeat (first | ((with_reducible first | apply ga | apply gb | apply gc | apply gd | apply ge | apply gf | apply gg | apply gh | apply gi | apply gj); conv => whnf) | (refine ⟨⟨rfl, rfl, nle rfl, nle rfl⟩, ?_⟩; conv => whnf) | (refine AD.plain rfl ?_; conv => whnf) | fail)
    refine awp_piece tab_ok mixed ?_
    conv => whnf
    repeat (first | ((with_reducible first | apply ga | apply gb | apply gc | apply gd | apply ge | apply gf | apply gg | apply gh | apply gi | apply gj); conv => whnf) | (refine ⟨⟨rfl, rfl, nle rfl, nle rfl⟩, ?_⟩; conv => whnf) | (refine AD.plain rfl ?_; conv => whnf) | fail)
    repeat (refine ⟨⟨rfl, rfl, nle rfl, nle rfl⟩, ?_⟩; conv => whnf)
    repeat (first | ((with_reducible first | apply ga | apply gb | apply gc | apply gd | apply ge | apply gf | apply gg | apply gh | apply gi | apply gj); conv => whnf) | (refine ⟨⟨rfl, rfl, nle rfl, nle rfl⟩, ?_⟩; conv => whnf) | (refine AD.plain rfl ?_; conv => whnf) | fail)
    refine ⟨⟨by unfold inI64; omega⟩, ?_⟩
    conv => whnf
    repeat (first | ((with_reducible first | apply ga | apply gb | apply gc | apply gd | apply ge | apply gf | apply gg | apply gh | apply gi | apply gj); conv => whnf) | (refine ⟨⟨rfl, rfl, nle rfl, nle rfl⟩, ?_⟩; conv => whnf) | (refine AD.plain rfl ?_; conv => whnf) | fail)
    refine ⟨fun _ => ?_, fun h => absurd h (by simp)⟩
    conv => whnf
    repeat (first | ((with_reducible first | apply ga | apply gb | apply gc | apply gd | apply ge | apply gf | apply gg | apply gh | apply gi | apply gj); conv => whnf) | (refine ⟨⟨rfl, rfl, nle rfl, nle rfl⟩, ?_⟩; conv => whnf) | (refine AD.plain rfl ?_; conv => whnf) | fail)
    repeat (refine ⟨⟨rfl, rfl, nle rfl, nle rfl⟩, ?_⟩; conv => whnf)
    repeat (first | ((with_reducible first | apply ga | apply gb | apply gc | apply gd | apply ge | apply gf | apply gg | apply gh | apply gi | apply gj); conv => whnf) | (refine ⟨⟨rfl, rfl, nle rfl, nle rfl⟩, ?_⟩; conv => whnf) | (refine AD.plain rfl ?_; conv => whnf) | fail)
    refine ⟨fun _ => ?_, fun h => absurd h (by simp)⟩
    conv => whnf
    repeat (first | ((with_reducible first | apply ga | apply gb | apply gc | apply gd | apply ge | apply gf | apply gg | apply gh | apply gi | apply gj); conv => whnf) | (refine ⟨⟨rfl, rfl, nle rfl, nle rfl⟩, ?_⟩; conv => whnf) | (refine AD.plain rfl ?_; conv => whnf) | fail)
    repeat (refine ⟨⟨rfl, rfl, nle rfl, nle rfl⟩, ?_⟩; conv => whnf)
    repeat (first | ((with_reducible first | apply ga | apply gb | apply gc | apply gd | apply ge | apply gf | apply gg | apply gh | apply gi | apply gj); conv => whnf) | (refine ⟨⟨rfl, rfl, nle rfl, nle rfl⟩, ?_⟩; conv => whnf) | (refine AD.plain rfl ?_; conv => whnf) | fail)
    refine CallK.flat [2200] (f23 ⟨b.num, X⟩ hsB) ⟨agg2 .same (VLe.frzO (E := 39) (g := 2) (L := X) rfl rfl .keepA hL.symm), trivial⟩ rfl ?_
    rw [hsl]
    conv => whnf
    repeat (first | ((with_reducible first | apply ga | apply gb | apply gc | apply gd | apply ge | apply gf | apply gg | apply gh | apply gi | apply gj); conv => whnf) | (refine ⟨⟨rfl, rfl, nle rfl, nle rfl⟩, ?_⟩; conv => whnf) | (refine AD.plain rfl ?_; conv => whnf) | fail)
    have hXl : X.getD (0 + (b.ws.length : Int).toNat) 0 = lastW b := by
      rw [hX, List.nil_append, Int.toNat_natCast, Nat.zero_add, List.getD_eq_getElem?_getD, List.getElem?_append_right (Nat.le_refl _), Nat.sub_self]; rfl
    have hXp : 0 < b.ws.length → X.getD (0 + ((b.ws.length : Int) - 1).toNat) 0 = b.ws.getD ((b.ws.length : Int) - 1).toNat 0 := fun hp => by
      rw [hX, List.nil_append, Nat.zero_add, List.getD_eq_getElem?_getD, List.getD_eq_getElem?_getD, List.getElem?_append_left (by omega)]
    have c30 : PureCall Try.prog 30 [u16 (sumW X : Nat)] (i64 b.num) := by
      have hv : value (sumW X) = b.num := by
        have := ((sealedB_iff _).mp hsl).2.2.2
        dsimp only at this
        rw [value_num hn.1 hn.2, res_sum]; exact this
      have := f30 (sumW X) (sum_lt _ _ (by decide))
      rw [hv] at this; exact this
    refine awp_pieceM tab_ok mixed (mkSt 97 [(1, u16 w), (2, .ptr 2 0 2 0 0), (5, .ptr 5 0 2 0 0), (7, i64 b.ws.length), (8, u16 (lastW b : Nat))] [(2, bkO b.num (.pv (wordsP b.ws))), (5, bkO b.num (.row 2200 2 1 0 (b.ws.length + 1))), (2200, rowA 39 1 wcell 0 2 X)]) True (fun K hK => ?_) (fun _ => ?_)
    · conv => whnf
      repeat (first | ((with_reducible first | apply ga | apply gb | apply gc | apply gd | apply ge | apply gf | apply gg | apply gh | apply gi | apply gj); conv => whnf) | (refine ⟨⟨rfl, rfl, nle rfl, nle rfl⟩, ?_⟩; conv => whnf) | (refine AD.plain rfl ?_; conv => whnf) | fail)
      repeat (refine ⟨⟨rfl, rfl, nle rfl, nle rfl⟩, ?_⟩; conv => whnf)
      repeat (first | ((with_reducible first | apply ga | apply gb | apply gc | apply gd | apply ge | apply gf | apply gg | apply gh | apply gi | apply gj); conv => whnf) | (refine ⟨⟨rfl, rfl, nle rfl, nle rfl⟩, ?_⟩; conv => whnf) | (refine AD.plain rfl ?_; conv => whnf) | fail)
      refine ⟨⟨by omega, by omega, rfl⟩, ?_⟩
      conv => whnf
      repeat (first | ((with_reducible first | apply ga | apply gb | apply gc | apply gd | apply ge | apply gf | apply gg | apply gh | apply gi | apply gj); conv => whnf) | (refine ⟨⟨rfl, rfl, nle rfl, nle rfl⟩, ?_⟩; conv => whnf) | (refine AD.plain rfl ?_; conv => whnf) | fail)
      refine ⟨⟨rfl, rfl, by show 0 + (b.ws.length : Int).toNat < X.length; omega, nle rfl⟩, ?_⟩
      conv => whnf
      repeat (first | ((with_reducible first | apply ga | apply gb | apply gc | apply gd | apply ge | apply gf | apply gg | apply gh | apply gi | apply gj); conv => whnf) | (refine ⟨⟨rfl, rfl, nle rfl, nle rfl⟩, ?_⟩; conv => whnf) | (refine AD.plain rfl ?_; conv => whnf) | fail)
      refine hK _ trivial (SubS.mkN [] [(2, 2), (5, 5), (2200, 2200)] rfl rfl rfl ⟨⟨_, rfl, .same⟩, ⟨_, rfl, .ptr _ _ _ _ _ _ _ _ _ rfl rfl rfl rfl⟩, ⟨_, rfl, .ptr _ _ _ _ _ _ _ _ _ rfl rfl rfl rfl⟩, ⟨_, rfl, .same⟩, ⟨_, rfl, VLe.int (by rw [hXl])⟩, trivial⟩
        ⟨.inl ⟨_, _, rfl, rfl, rfl, bkLe rfl rfl rfl rfl .same .same⟩, .inl ⟨_, _, rfl, rfl, rfl, bkLe rfl rfl rfl rfl .same (.row _ _ _ _ _ _ _ _ _ rfl rfl rfl rfl)⟩, .inl ⟨_, _, rfl, rfl, rfl, .keepA⟩, trivial⟩)
    refine awp_pieceM tab_ok mixed (mkSt 97 [(1, u16 w), (2, .ptr 2 0 2 0 0), (5, .ptr 5 0 2 0 0), (7, i64 b.ws.length), (8, u16 (lastW b : Nat))] [(2, bkO b.num (.pv (wordsP b.ws))), (5, bkO b.num (.row 2200 2 1 0 (b.ws.length + 1))), (2200, rowA 39 1 wcell 0 2 X)]) True (fun K hK => ex_sq (ex_drawn (by kernel_rfl) ?_)) (fun _ => ?_)
    · by_cases hp : 0 < b.ws.length
      · have e : decide ((0 : Int) < (b.ws.length : Int)) = true := decide_eq_true (by omega)
        repeat (first | ((with_reducible first | apply ga | apply gb | apply gc | apply gd | apply ge | apply gf | apply gg | apply gh | apply gi | apply gj); conv => whnf) | (refine ⟨⟨rfl, rfl, nle rfl, nle rfl⟩, ?_⟩; conv => whnf) | (refine AD.plain rfl ?_; conv => whnf) | (refine AD.on rfl rfl rfl ?_; conv => whnf) | (refine AD.off rfl rfl rfl ?_; conv => whnf) | fail)
        refine AD.test rfl rfl rfl ⟨fun _ => ?_, fun h => absurd h (by rw [e]; decide)⟩
        conv => whnf
        repeat (first | ((with_reducible first | apply ga | apply gb | apply gc | apply gd | apply ge | apply gf | apply gg | apply gh | apply gi | apply gj); conv => whnf) | (refine ⟨⟨rfl, rfl, nle rfl, nle rfl⟩, ?_⟩; conv => whnf) | (refine AD.plain rfl ?_; conv => whnf) | fail)
        repeat (refine ⟨⟨rfl, rfl, nle rfl, nle rfl⟩, ?_⟩; conv => whnf)
        repeat (first | ((with_reducible first | apply ga | apply gb | apply gc | apply gd | apply ge | apply gf | apply gg | apply gh | apply gi | apply gj); conv => whnf) | (refine ⟨⟨rfl, rfl, nle rfl, nle rfl⟩, ?_⟩; conv => whnf) | (refine AD.plain rfl ?_; conv => whnf) | fail)
        repeat (first | ((with_reducible first | apply ga | apply gb | apply gc | apply gd | apply ge | apply gf | apply gg | apply gh | apply gi | apply gj); conv => whnf) | (refine ⟨⟨rfl, rfl, nle rfl, nle rfl⟩, ?_⟩; conv => whnf) | (refine AD.plain rfl ?_; conv => whnf) | (refine AD.on rfl rfl rfl ?_; conv => whnf) | (refine AD.off rfl rfl rfl ?_; conv => whnf) | fail)
        refine ⟨⟨by unfold inI64; omega⟩, ?_⟩
        conv => whnf
        repeat (first | ((with_reducible first | apply ga | apply gb | apply gc | apply gd | apply ge | apply gf | apply gg | apply gh | apply gi | apply gj); conv => whnf) | (refine ⟨⟨rfl, rfl, nle rfl, nle rfl⟩, ?_⟩; conv => whnf) | (refine AD.plain rfl ?_; conv => whnf) | fail)
        repeat (first | ((with_reducible first | apply ga | apply gb | apply gc | apply gd | apply ge | apply gf | apply gg | apply gh | apply gi | apply gj); conv => whnf) | (refine ⟨⟨rfl, rfl, nle rfl, nle rfl⟩, ?_⟩; conv => whnf) | (refine AD.plain rfl ?_; conv => whnf) | (refine AD.on rfl rfl rfl ?_; conv => whnf) | (refine AD.off rfl rfl rfl ?_; conv => whnf) | fail)
        refine ⟨⟨by omega, by omega, rfl⟩, ?_⟩
        conv => whnf
        repeat (first | ((with_reducible first | apply ga | apply gb | apply gc | apply gd | apply ge | apply gf | apply gg | apply gh | apply gi | apply gj); conv => whnf) | (refine ⟨⟨rfl, rfl, nle rfl, nle rfl⟩, ?_⟩; conv => whnf) | (refine AD.plain rfl ?_; conv => whnf) | fail)
        repeat (first | ((with_reducible first | apply ga | apply gb | apply gc | apply gd | apply ge | apply gf | apply gg | apply gh | apply gi | apply gj); conv => whnf) | (refine ⟨⟨rfl, rfl, nle rfl, nle rfl⟩, ?_⟩; conv => whnf) | (refine AD.plain rfl ?_; conv => whnf) | (refine AD.on rfl rfl rfl ?_; conv => whnf) | (refine AD.off rfl rfl rfl ?_; conv => whnf) | fail)
        refine ⟨⟨rfl, rfl, by show 0 + ((b.ws.length : Int) - 1).toNat < X.length; omega, nle rfl⟩, ?_⟩
        conv => whnf
        repeat (first | ((with_reducible first | apply ga | apply gb | apply gc | apply gd | apply ge | apply gf | apply gg | apply gh | apply gi | apply gj); conv => whnf) | (refine ⟨⟨rfl, rfl, nle rfl, nle rfl⟩, ?_⟩; conv => whnf) | (refine AD.plain rfl ?_; conv => whnf) | fail)
        repeat (first | ((with_reducible first | apply ga | apply gb | apply gc | apply gd | apply ge | apply gf | apply gg | apply gh | apply gi | apply gj); conv => whnf) | (refine ⟨⟨rfl, rfl, nle rfl, nle rfl⟩, ?_⟩; conv => whnf) | (refine AD.plain rfl ?_; conv => whnf) | (refine AD.on rfl rfl rfl ?_; conv => whnf) | (refine AD.off rfl rfl rfl ?_; conv => whnf) | fail)
        repeat (refine ⟨⟨rfl, rfl, nle rfl, nle rfl⟩, ?_⟩; conv => whnf)
        repeat (first | ((with_reducible first | apply ga | apply gb | apply gc | apply gd | apply ge | apply gf | apply gg | apply gh | apply gi | apply gj); conv => whnf) | (refine ⟨⟨rfl, rfl, nle rfl, nle rfl⟩, ?_⟩; conv => whnf) | (refine AD.plain rfl ?_; conv => whnf) | fail)
        repeat (first | ((with_reducible first | apply ga | apply gb | apply gc | apply gd | apply ge | apply gf | apply gg | apply gh | apply gi | apply gj); conv => whnf) | (refine ⟨⟨rfl, rfl, nle rfl, nle rfl⟩, ?_⟩; conv => whnf) | (refine AD.plain rfl ?_; conv => whnf) | (refine AD.on rfl rfl rfl ?_; conv => whnf) | (refine AD.off rfl rfl rfl ?_; conv => whnf) | fail)
        refine ⟨⟨by unfold inI64; omega⟩, ?_⟩
        conv => whnf
        repeat (first | ((with_reducible first | apply ga | apply gb | apply gc | apply gd | apply ge | apply gf | apply gg | apply gh | apply gi | apply gj); conv => whnf) | (refine ⟨⟨rfl, rfl, nle rfl, nle rfl⟩, ?_⟩; conv => whnf) | (refine AD.plain rfl ?_; conv => whnf) | fail)
        repeat (first | ((with_reducible first | apply ga | apply gb | apply gc | apply gd | apply ge | apply gf | apply gg | apply gh | apply gi | apply gj); conv => whnf) | (refine ⟨⟨rfl, rfl, nle rfl, nle rfl⟩, ?_⟩; conv => whnf) | (refine AD.plain rfl ?_; conv => whnf) | (refine AD.on rfl rfl rfl ?_; conv => whnf) | (refine AD.off rfl rfl rfl ?_; conv => whnf) | fail)
        refine ⟨⟨by omega, by omega, rfl⟩, ?_⟩
        conv => whnf
        repeat (first | ((with_reducible first | apply ga | apply gb | apply gc | apply gd | apply ge | apply gf | apply gg | apply gh | apply gi | apply gj); conv => whnf) | (refine ⟨⟨rfl, rfl, nle rfl, nle rfl⟩, ?_⟩; conv => whnf) | (refine AD.plain rfl ?_; conv => whnf) | fail)
        repeat (first | ((with_reducible first | apply ga | apply gb | apply gc | apply gd | apply ge | apply gf | apply gg | apply gh | apply gi | apply gj); conv => whnf) | (refine ⟨⟨rfl, rfl, nle rfl, nle rfl⟩, ?_⟩; conv => whnf) | (refine AD.plain rfl ?_; conv => whnf) | (refine AD.on rfl rfl rfl ?_; conv => whnf) | (refine AD.off rfl rfl rfl ?_; conv => whnf) | fail)
        refine ⟨⟨by decide⟩, ?_⟩
        conv => whnf
        repeat (first | ((with_reducible first | apply ga | apply gb | apply gc | apply gd | apply ge | apply gf | apply gg | apply gh | apply gi | apply gj); conv => whnf) | (refine ⟨⟨rfl, rfl, nle rfl, nle rfl⟩, ?_⟩; conv => whnf) | (refine AD.plain rfl ?_; conv => whnf) | fail)
        repeat (first | ((with_reducible first | apply ga | apply gb | apply gc | apply gd | apply ge | apply gf | apply gg | apply gh | apply gi | apply gj); conv => whnf) | (refine ⟨⟨rfl, rfl, nle rfl, nle rfl⟩, ?_⟩; conv => whnf) | (refine AD.plain rfl ?_; conv => whnf) | (refine AD.on rfl rfl rfl ?_; conv => whnf) | (refine AD.off rfl rfl rfl ?_; conv => whnf) | fail)
        refine AD.test rfl rfl rfl ⟨fun _ => ?_, fun h => absurd h (by rw [hXp hp]; simp)⟩
        conv => whnf
        repeat (first | ((with_reducible first | apply ga | apply gb | apply gc | apply gd | apply ge | apply gf | apply gg | apply gh | apply gi | apply gj); conv => whnf) | (refine ⟨⟨rfl, rfl, nle rfl, nle rfl⟩, ?_⟩; conv => whnf) | (refine AD.plain rfl ?_; conv => whnf) | fail)
        repeat (first | ((with_reducible first | apply ga | apply gb | apply gc | apply gd | apply ge | apply gf | apply gg | apply gh | apply gi | apply gj); conv => whnf) | (refine ⟨⟨rfl, rfl, nle rfl, nle rfl⟩, ?_⟩; conv => whnf) | (refine AD.plain rfl ?_; conv => whnf) | (refine AD.on rfl rfl rfl ?_; conv => whnf) | (refine AD.off rfl rfl rfl ?_; conv => whnf) | fail)
        repeat (refine ⟨⟨rfl, rfl, nle rfl, nle rfl⟩, ?_⟩; conv => whnf)
        repeat (first | ((with_reducible first | apply ga | apply gb | apply gc | apply gd | apply ge | apply gf | apply gg | apply gh | apply gi | apply gj); conv => whnf) | (refine ⟨⟨rfl, rfl, nle rfl, nle rfl⟩, ?_⟩; conv => whnf) | (refine AD.plain rfl ?_; conv => whnf) | fail)
        repeat (first | ((with_reducible first | apply ga | apply gb | apply gc | apply gd | apply ge | apply gf | apply gg | apply gh | apply gi | apply gj); conv => whnf) | (refine ⟨⟨rfl, rfl, nle rfl, nle rfl⟩, ?_⟩; conv => whnf) | (refine AD.plain rfl ?_; conv => whnf) | (refine AD.on rfl rfl rfl ?_; conv => whnf) | (refine AD.off rfl rfl rfl ?_; conv => whnf) | fail)
        refine ⟨_, [2200], ⟨_, f21 X hsB.2, ⟨VLe.frzO (E := 39) (g := 2) (L := X) rfl rfl .keepA hL.symm, trivial⟩, .inl rfl⟩, ?_⟩
        repeat (first | ((with_reducible first | apply ga | apply gb | apply gc | apply gd | apply ge | apply gf | apply gg | apply gh | apply gi | apply gj); conv => whnf) | (refine ⟨⟨rfl, rfl, nle rfl, nle rfl⟩, ?_⟩; conv => whnf) | (refine AD.plain rfl ?_; conv => whnf) | (refine AD.on rfl rfl rfl ?_; conv => whnf) | (refine AD.off rfl rfl rfl ?_; conv => whnf) | fail)
        refine ⟨_, [], ⟨_, c30, ⟨.same, trivial⟩, .inl rfl⟩, ?_⟩
        conv => whnf
        repeat (first | ((with_reducible first | apply ga | apply gb | apply gc | apply gd | apply ge | apply gf | apply gg | apply gh | apply gi | apply gj); conv => whnf) | (refine ⟨⟨rfl, rfl, nle rfl, nle rfl⟩, ?_⟩; conv => whnf) | (refine AD.plain rfl ?_; conv => whnf) | fail)
        repeat (first | ((with_reducible first | apply ga | apply gb | apply gc | apply gd | apply ge | apply gf | apply gg | apply gh | apply gi | apply gj); conv => whnf) | (refine ⟨⟨rfl, rfl, nle rfl, nle rfl⟩, ?_⟩; conv => whnf) | (refine AD.plain rfl ?_; conv => whnf) | (refine AD.on rfl rfl rfl ?_; conv => whnf) | (refine AD.off rfl rfl rfl ?_; conv => whnf) | fail)
        repeat (refine ⟨⟨rfl, rfl, nle rfl, nle rfl⟩, ?_⟩; conv => whnf)
        repeat (first | ((with_reducible first | apply ga | apply gb | apply gc | apply gd | apply ge | apply gf | apply gg | apply gh | apply gi | apply gj); conv => whnf) | (refine ⟨⟨rfl, rfl, nle rfl, nle rfl⟩, ?_⟩; conv => whnf) | (refine AD.plain rfl ?_; conv => whnf) | fail)
        repeat (first | ((with_reducible first | apply ga | apply gb | apply gc | apply gd | apply ge | apply gf | apply gg | apply gh | apply gi | apply gj); conv => whnf) | (refine ⟨⟨rfl, rfl, nle rfl, nle rfl⟩, ?_⟩; conv => whnf) | (refine AD.plain rfl ?_; conv => whnf) | (refine AD.on rfl rfl rfl ?_; conv => whnf) | (refine AD.off rfl rfl rfl ?_; conv => whnf) | fail)
        refine AD.nil ⟨by kernel_rfl, ?_⟩
        conv => whnf
        repeat (first | ((with_reducible first | apply ga | apply gb | apply gc | apply gd | apply ge | apply gf | apply gg | apply gh | apply gi | apply gj); conv => whnf) | (refine ⟨⟨rfl, rfl, nle rfl, nle rfl⟩, ?_⟩; conv => whnf) | (refine AD.plain rfl ?_; conv => whnf) | fail)
        refine ⟨fun h => absurd h (by simp), fun _ => ?_⟩
        conv => whnf
        repeat (first | ((with_reducible first | apply ga | apply gb | apply gc | apply gd | apply ge | apply gf | apply gg | apply gh | apply gi | apply gj); conv => whnf) | (refine ⟨⟨rfl, rfl, nle rfl, nle rfl⟩, ?_⟩; conv => whnf) | (refine AD.plain rfl ?_; conv => whnf) | fail)
        exact hK _ trivial (SubS.mkN [] [(2, 2), (5, 5), (2200, 2200)] rfl rfl rfl ⟨⟨_, rfl, .same⟩, ⟨_, rfl, .ptr _ _ _ _ _ _ _ _ _ rfl rfl rfl rfl⟩, ⟨_, rfl, .ptr _ _ _ _ _ _ _ _ _ rfl rfl rfl rfl⟩, ⟨_, rfl, .same⟩, ⟨_, rfl, .same⟩, trivial⟩
          ⟨.inl ⟨_, _, rfl, rfl, rfl, bkLe rfl rfl rfl rfl .same .same⟩, .inl ⟨_, _, rfl, rfl, rfl, bkLe rfl rfl rfl rfl .same (.row _ _ _ _ _ _ _ _ _ rfl rfl rfl rfl)⟩, .inl ⟨_, _, rfl, rfl, rfl, .keepA⟩, trivial⟩)
      · have e : decide ((0 : Int) < (b.ws.length : Int)) = false := decide_eq_false (by omega)
        repeat (first | ((with_reducible first | apply ga | apply gb | apply gc | apply gd | apply ge | apply gf | apply gg | apply gh | apply gi | apply gj); conv => whnf) | (refine ⟨⟨rfl, rfl, nle rfl, nle rfl⟩, ?_⟩; conv => whnf) | (refine AD.plain rfl ?_; conv => whnf) | (refine AD.on rfl rfl rfl ?_; conv => whnf) | (refine AD.off rfl rfl rfl ?_; conv => whnf) | fail)
        refine AD.test rfl rfl rfl ⟨fun h => absurd h (by rw [e]; decide), fun _ => ?_⟩
        conv => whnf
        repeat (first | ((with_reducible first | apply ga | apply gb | apply gc | apply gd | apply ge | apply gf | apply gg | apply gh | apply gi | apply gj); conv => whnf) | (refine ⟨⟨rfl, rfl, nle rfl, nle rfl⟩, ?_⟩; conv => whnf) | (refine AD.plain rfl ?_; conv => whnf) | fail)
        repeat (first | ((with_reducible first | apply ga | apply gb | apply gc | apply gd | apply ge | apply gf | apply gg | apply gh | apply gi | apply gj); conv => whnf) | (refine ⟨⟨rfl, rfl, nle rfl, nle rfl⟩, ?_⟩; conv => whnf) | (refine AD.plain rfl ?_; conv => whnf) | (refine AD.on rfl rfl rfl ?_; conv => whnf) | (refine AD.off rfl rfl rfl ?_; conv => whnf) | fail)
        refine ⟨_, [2200], ⟨_, f21 X hsB.2, ⟨VLe.frzO (E := 39) (g := 2) (L := X) rfl rfl .keepA hL.symm, trivial⟩, .inl rfl⟩, ?_⟩
        repeat (first | ((with_reducible first | apply ga | apply gb | apply gc | apply gd | apply ge | apply gf | apply gg | apply gh | apply gi | apply gj); conv => whnf) | (refine ⟨⟨rfl, rfl, nle rfl, nle rfl⟩, ?_⟩; conv => whnf) | (refine AD.plain rfl ?_; conv => whnf) | (refine AD.on rfl rfl rfl ?_; conv => whnf) | (refine AD.off rfl rfl rfl ?_; conv => whnf) | fail)
        refine ⟨_, [], ⟨_, c30, ⟨.same, trivial⟩, .inl rfl⟩, ?_⟩
        conv => whnf
        repeat (first | ((with_reducible first | apply ga | apply gb | apply gc | apply gd | apply ge | apply gf | apply gg | apply gh | apply gi | apply gj); conv => whnf) | (refine ⟨⟨rfl, rfl, nle rfl, nle rfl⟩, ?_⟩; conv => whnf) | (refine AD.plain rfl ?_; conv => whnf) | fail)
        repeat (first | ((with_reducible first | apply ga | apply gb | apply gc | apply gd | apply ge | apply gf | apply gg | apply gh | apply gi | apply gj); conv => whnf) | (refine ⟨⟨rfl, rfl, nle rfl, nle rfl⟩, ?_⟩; conv => whnf) | (refine AD.plain rfl ?_; conv => whnf) | (refine AD.on rfl rfl rfl ?_; conv => whnf) | (refine AD.off rfl rfl rfl ?_; conv => whnf) | fail)
        repeat (refine ⟨⟨rfl, rfl, nle rfl, nle rfl⟩, ?_⟩; conv => whnf)
        repeat (first | ((with_reducible first | apply ga | apply gb | apply gc | apply gd | apply ge | apply gf | apply gg | apply gh | apply gi | apply gj); conv => whnf) | (refine ⟨⟨rfl, rfl, nle rfl, nle rfl⟩, ?_⟩; conv => whnf) | (refine AD.plain rfl ?_; conv => whnf) | fail)
        repeat (first | ((with_reducible first | apply ga | apply gb | apply gc | apply gd | apply ge | apply gf | apply gg | apply gh | apply gi | apply gj); conv => whnf) | (refine ⟨⟨rfl, rfl, nle rfl, nle rfl⟩, ?_⟩; conv => whnf) | (refine AD.plain rfl ?_; conv => whnf) | (refine AD.on rfl rfl rfl ?_; conv => whnf) | (refine AD.off rfl rfl rfl ?_; conv => whnf) | fail)
        refine AD.nil ⟨by kernel_rfl, ?_⟩
        conv => whnf
        repeat (first | ((with_reducible first | apply ga | apply gb | apply gc | apply gd | apply ge | apply gf | apply gg | apply gh | apply gi | apply gj); conv => whnf) | (refine ⟨⟨rfl, rfl, nle rfl, nle rfl⟩, ?_⟩; conv => whnf) | (refine AD.plain rfl ?_; conv => whnf) | fail)
        refine ⟨fun h => absurd h (by simp), fun _ => ?_⟩
        conv => whnf
        repeat (first | ((with_reducible first | apply ga | apply gb | apply gc | apply gd | apply ge | apply gf | apply gg | apply gh | apply gi | apply gj); conv => whnf) | (refine ⟨⟨rfl, rfl, nle rfl, nle rfl⟩, ?_⟩; conv => whnf) | (refine AD.plain rfl ?_; conv => whnf) | fail)
        exact hK _ trivial (SubS.mkN [] [(2, 2), (5, 5), (2200, 2200)] rfl rfl rfl ⟨⟨_, rfl, .same⟩, ⟨_, rfl, .ptr _ _ _ _ _ _ _ _ _ rfl rfl rfl rfl⟩, ⟨_, rfl, .ptr _ _ _ _ _ _ _ _ _ rfl rfl rfl rfl⟩, ⟨_, rfl, .same⟩, ⟨_, rfl, .same⟩, trivial⟩
          ⟨.inl ⟨_, _, rfl, rfl, rfl, bkLe rfl rfl rfl rfl .same .same⟩, .inl ⟨_, _, rfl, rfl, rfl, bkLe rfl rfl rfl rfl .same (.row _ _ _ _ _ _ _ _ _ rfl rfl rfl rfl)⟩, .inl ⟨_, _, rfl, rfl, rfl, .keepA⟩, trivial⟩)
    have hXs : X.set (0 + (b.ws.length : Int).toNat) (w % 32768) = b.ws ++ [w % 32768] := by
      rw [hX, List.nil_append, Int.toNat_natCast, Nat.zero_add, List.set_append_right _ _ (Nat.le_refl _), Nat.sub_self]; rfl
    refine awp_pieceM tab_ok mixed (mkSt 97 [(1, u16 w), (5, .ptr 5 0 2 0 0), (8, u16 (lastW b : Nat))] [(5, bkO b.num (.row 2200 2 1 0 (b.ws.length + 1))), (2200, rowA 39 1 wcell 0 2 (X.set (0 + (b.ws.length : Int).toNat) (w % 32768)))]) True (fun K hK => ?_) (fun _ => ?_)
    · conv => whnf
      repeat (first | ((with_reducible first | apply ga | apply gb | apply gc | apply gd | apply ge | apply gf | apply gg | apply gh | apply gi | apply gj); conv => whnf) | (refine ⟨⟨rfl, rfl, nle rfl, nle rfl⟩, ?_⟩; conv => whnf) | (refine AD.plain rfl ?_; conv => whnf) | fail)
      repeat (refine ⟨⟨rfl, rfl, nle rfl, nle rfl⟩, ?_⟩; conv => whnf)
      repeat (first | ((with_reducible first | apply ga | apply gb | apply gc | apply gd | apply ge | apply gf | apply gg | apply gh | apply gi | apply gj); conv => whnf) | (refine ⟨⟨rfl, rfl, nle rfl, nle rfl⟩, ?_⟩; conv => whnf) | (refine AD.plain rfl ?_; conv => whnf) | fail)
      refine ⟨⟨by decide⟩, ?_⟩
      conv => whnf
      repeat (first | ((with_reducible first | apply ga | apply gb | apply gc | apply gd | apply ge | apply gf | apply gg | apply gh | apply gi | apply gj); conv => whnf) | (refine ⟨⟨rfl, rfl, nle rfl, nle rfl⟩, ?_⟩; conv => whnf) | (refine AD.plain rfl ?_; conv => whnf) | fail)
      refine ⟨⟨by omega, by omega, rfl⟩, ?_⟩
      conv => whnf
      repeat (first | ((with_reducible first | apply ga | apply gb | apply gc | apply gd | apply ge | apply gf | apply gg | apply gh | apply gi | apply gj); conv => whnf) | (refine ⟨⟨rfl, rfl, nle rfl, nle rfl⟩, ?_⟩; conv => whnf) | (refine AD.plain rfl ?_; conv => whnf) | fail)
      refine ⟨⟨rfl, rfl, by show 0 + (b.ws.length : Int).toNat < X.length; omega, nle rfl⟩, ?_⟩
      conv => whnf
      repeat (first | ((with_reducible first | apply ga | apply gb | apply gc | apply gd | apply ge | apply gf | apply gg | apply gh | apply gi | apply gj); conv => whnf) | (refine ⟨⟨rfl, rfl, nle rfl, nle rfl⟩, ?_⟩; conv => whnf) | (refine AD.plain rfl ?_; conv => whnf) | fail)
      refine hK _ trivial (SubS.mkN [] [(5, 5), (2200, 2200)] rfl rfl rfl ⟨⟨_, rfl, .same⟩, ⟨_, rfl, .ptr _ _ _ _ _ _ _ _ _ rfl rfl rfl rfl⟩, ⟨_, rfl, .same⟩, trivial⟩
        ⟨.inl ⟨_, _, rfl, rfl, rfl, bkLe rfl rfl rfl rfl .same (.row _ _ _ _ _ _ _ _ _ rfl rfl rfl rfl)⟩, .inl ⟨_, _, rfl, rfl, rfl, OLe.setW (gv := fun _ => .pv (.int .u16 ((w : Int).tmod 32768))) rfl rfl rfl rfl rfl (VLe.int (by rw [Int.tmod_eq_emod_of_nonneg (by omega)]; omega)) (by omega)⟩, trivial⟩)
    rw [hXs]
    have hwl : w % 32768 = lo w := rfl
    have cz : PureCall Try.prog 23 [BankR.av ⟨b.num, b.ws ++ [w % 32768]⟩] (bb (value w == value (lastW b))) := by
      have c := f23 ⟨b.num, b.ws ++ [w % 32768]⟩ ⟨hB.1, by dsimp only; rw [List.length_append]; show b.ws.length + 1 < _; omega, fun y hy => by
        rcases List.mem_append.mp hy with hy | hy
        · exact hB.2.2 y hy
        · rw [List.mem_singleton] at hy; omega⟩
      have hvl : value (w % 32768) = value w := by unfold value lo; rw [Nat.mod_mod]
      rw [sealed_with hn hlen hv (by omega), hvl] at c
      exact c
    refine awp_last tab_ok mixed ?_
    conv => whnf
    repeat (first | ((with_reducible first | apply ga | apply gb | apply gc | apply gd | apply ge | apply gf | apply gg | apply gh | apply gi | apply gj); conv => whnf) | (refine ⟨⟨rfl, rfl, nle rfl, nle rfl⟩, ?_⟩; conv => whnf) | (refine AD.plain rfl ?_; conv => whnf) | fail)
    repeat (refine ⟨⟨rfl, rfl, nle rfl, nle rfl⟩, ?_⟩; conv => whnf)
    repeat (first | ((with_reducible first | apply ga | apply gb | apply gc | apply gd | apply ge | apply gf | apply gg | apply gh | apply gi | apply gj); conv => whnf) | (refine ⟨⟨rfl, rfl, nle rfl, nle rfl⟩, ?_⟩; conv => whnf) | (refine AD.plain rfl ?_; conv => whnf) | fail)
    refine CallK.flat [2200] cz ⟨agg2 .same (VLe.frzO (E := 39) (g := 2) (L := b.ws ++ [w % 32768]) rfl rfl .keepA (by simp)), trivial⟩ rfl ?_
    conv => whnf
    repeat (first | ((with_reducible first | apply ga | apply gb | apply gc | apply gd | apply ge | apply gf | apply gg | apply gh | apply gi | apply gj); conv => whnf) | (refine ⟨⟨rfl, rfl, nle rfl, nle rfl⟩, ?_⟩; conv => whnf) | (refine AD.plain rfl ?_; conv => whnf) | fail)
    refine CallK.flat [] (f30 w hw) ⟨.same, trivial⟩ rfl ?_
    conv => whnf
    repeat (first | ((with_reducible first | apply ga | apply gb | apply gc | apply gd | apply ge | apply gf | apply gg | apply gh | apply gi | apply gj); conv => whnf) | (refine ⟨⟨rfl, rfl, nle rfl, nle rfl⟩, ?_⟩; conv => whnf) | (refine AD.plain rfl ?_; conv => whnf) | fail)
    refine CallK.flat [] (f30 (lastW b) (by omega)) ⟨.same, trivial⟩ rfl ?_
    conv => whnf
    repeat (first | ((with_reducible first | apply ga | apply gb | apply gc | apply gd | apply ge | apply gf | apply gg | apply gh | apply gi | apply gj); conv => whnf) | (refine ⟨⟨rfl, rfl, nle rfl, nle rfl⟩, ?_⟩; conv => whnf) | (refine AD.plain rfl ?_; conv => whnf) | fail)
    refine ⟨fun _ => ?_, fun h => absurd h (by simp)⟩
    conv => whnf
    repeat (first | ((with_reducible first | apply ga | apply gb | apply gc | apply gd | apply ge | apply gf | apply gg | apply gh | apply gi | apply gj); conv => whnf) | (refine ⟨⟨rfl, rfl, nle rfl, nle rfl⟩, ?_⟩; conv => whnf) | (refine AD.plain rfl ?_; conv => whnf) | fail)
    refine CallK.flat [] f15 trivial rfl ?_
    conv => whnf
    repeat (first | ((with_reducible first | apply ga | apply gb | apply gc | apply gd | apply ge | apply gf | apply gg | apply gh | apply gi | apply gj); conv => whnf) | (refine ⟨⟨rfl, rfl, nle rfl, nle rfl⟩, ?_⟩; conv => whnf) | (refine AD.plain rfl ?_; conv => whnf) | fail)
    exact done_bool _ _ rfl rfl rfl
  · obtain ⟨e, he, hne⟩ : ∃ e : Int, sealR b = (b0, e) ∧ e ≠ 0 := by
      unfold sealR at hx ⊢
      split
      · exact ⟨3, rfl, by decide⟩
      · rename_i h1
        rw [if_neg h1] at hx
        split
        · exact ⟨13, rfl, by decide⟩
        · rename_i h2
          rw [if_neg h2] at hx
          split
          · exact ⟨3, rfl, by decide⟩
          · rename_i h3
            rw [if_neg h3] at hx
            exact absurd rfl hx
    have c := f19 b hB
    rw [he] at c
    have c : PureCall Try.prog 19 [b.av] (tupV [b0.av, i64 e]) := c
    refine PureCall.body tab_ok (by kernel_rfl) Try.func9 rfl rfl rfl ?_
    refine awp_piece tab_ok mixed ?_
    conv => whnf
    repeat (first | ((with_reducible first | apply ga | apply gb | apply gc | apply gd | apply ge | apply gf | apply gg | apply gh | apply gi | apply gj); conv => whnf) | (refine ⟨⟨rfl, rfl, nle rfl, nle rfl⟩, ?_⟩; conv => whnf) | (refine AD.plain rfl ?_; conv => whnf) | fail)
    refine awp_piece tab_ok mixed ?_
    conv => whnf
    repeat (first | ((with_reducible first | apply ga | apply gb | apply gc | apply gd | apply ge | apply gf | apply gg | apply gh | apply gi | apply gj); conv => whnf) | (refine ⟨⟨rfl, rfl, nle rfl, nle rfl⟩, ?_⟩; conv => whnf) | (refine AD.plain rfl ?_; conv => whnf) | fail)
    repeat (refine ⟨⟨rfl, rfl, nle rfl, nle rfl⟩, ?_⟩; conv => whnf)
    repeat (first | ((with_reducible first | apply ga | apply gb | apply gc | apply gd | apply ge | apply gf | apply gg | apply gh | apply gi | apply gj); conv => whnf) | (refine ⟨⟨rfl, rfl, nle rfl, nle rfl⟩, ?_⟩; conv => whnf) | (refine AD.plain rfl ?_; conv => whnf) | fail)
    refine CallK.drop [] c ⟨agg2 .same .same, trivial⟩ ?_
    conv => whnf
    repeat (first | ((with_reducible first | apply ga | apply gb | apply gc | apply gd | apply ge | apply gf | apply gg | apply gh | apply gi | apply gj); conv => whnf) | (refine ⟨⟨rfl, rfl, nle rfl, nle rfl⟩, ?_⟩; conv => whnf) | (refine AD.plain rfl ?_; conv => whnf) | fail)
    repeat (refine ⟨⟨rfl, rfl, nle rfl, nle rfl⟩, ?_⟩; conv => whnf)
    repeat (first | ((with_reducible first | apply ga | apply gb | apply gc | apply gd | apply ge | apply gf | apply gg | apply gh | apply gi | apply gj); conv => whnf) | (refine ⟨⟨rfl, rfl, nle rfl, nle rfl⟩, ?_⟩; conv => whnf) | (refine AD.plain rfl ?_; conv => whnf) | fail)
    refine awp_piece tab_ok mixed ?_
    conv => whnf
    repeat (first | ((with_reducible first | apply ga | apply gb | apply gc | apply gd | apply ge | apply gf | apply gg | apply gh | apply gi | apply gj); conv => whnf) | (refine ⟨⟨rfl, rfl, nle rfl, nle rfl⟩, ?_⟩; conv => whnf) | (refine AD.plain rfl ?_; conv => whnf) | fail)
    refine ⟨fun _ => ?_, fun h => absurd h (by simp; omega)⟩
    conv => whnf
    repeat (first | ((with_reducible first | apply ga | apply gb | apply gc | apply gd | apply ge | apply gf | apply gg | apply gh | apply gi | apply gj); conv => whnf) | (refine ⟨⟨rfl, rfl, nle rfl, nle rfl⟩, ?_⟩; conv => whnf) | (refine AD.plain rfl ?_; conv => whnf) | fail)
    repeat (refine ⟨⟨rfl, rfl, nle rfl, nle rfl⟩, ?_⟩; conv => whnf)
    repeat (first | ((with_reducible first | apply ga | apply gb | apply gc | apply gd | apply ge | apply gf | apply gg | apply gh | apply gi | apply gj); conv => whnf) | (refine ⟨⟨rfl, rfl, nle rfl, nle rfl⟩, ?_⟩; conv => whnf) | (refine AD.plain rfl ?_; conv => whnf) | fail)
    refine ⟨fun _ => ?_, fun h => absurd h (by decide)⟩
    conv => whnf
    repeat (first | ((with_reducible first | apply ga | apply gb | apply gc | apply gd | apply ge | apply gf | apply gg | apply gh | apply gi | apply gj); conv => whnf) | (refine ⟨⟨rfl, rfl, nle rfl, nle rfl⟩, ?_⟩; conv => whnf) | (refine AD.plain rfl ?_; conv => whnf) | fail)
    repeat (refine ⟨⟨rfl, rfl, nle rfl, nle rfl⟩, ?_⟩; conv => whnf)
    repeat (first | ((with_reducible first | apply ga | apply gb | apply gc | apply gd | apply ge | apply gf | apply gg | apply gh | apply gi | apply gj); conv => whnf) | (refine ⟨⟨rfl, rfl, nle rfl, nle rfl⟩, ?_⟩; conv => whnf) | (refine AD.plain rfl ?_; conv => whnf) | fail)
    refine ⟨fun _ => ?_, fun h => absurd h (by decide)⟩
    conv => whnf
    repeat (first | ((with_reducible first | apply ga | apply gb | apply gc | apply gd | apply ge | apply gf | apply gg | apply gh | apply gi | apply gj); conv => whnf) | (refine ⟨⟨rfl, rfl, nle rfl, nle rfl⟩, ?_⟩; conv => whnf) | (refine AD.plain rfl ?_; conv => whnf) | fail)
    refine CallK.flat [] f15 trivial rfl ?_
    conv => whnf
    repeat (first | ((with_reducible first | apply ga | apply gb | apply gc | apply gd | apply ge | apply gf | apply gg | apply gh | apply gi | apply gj); conv => whnf) | (refine ⟨⟨rfl, rfl, nle rfl, nle rfl⟩, ?_⟩; conv => whnf) | (refine AD.plain rfl ?_; conv => whnf) | fail)
    exact done_bool _ _ rfl rfl rfl
end Go.Proofs.Ytioccpodnkllfaa
