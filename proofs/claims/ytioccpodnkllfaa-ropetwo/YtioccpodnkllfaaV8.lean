/- Part of the proof: what the functions that the law calls compute (8). -/
import Derived.Test.YtioccpodnkllfaaV7
namespace Go.Proofs.Ytioccpodnkllfaa
open Go Go.AM
attribute [local irreducible] AWP CallK PureCall SubS HeapCall HeapCallP HeapCallK
theorem tot_rev : ∀ l : List Nat, tot l.reverse = tot l
  | [] => rfl
  | w :: l => by
    rw [List.reverse_cons, tot_app, tot_rev l, show tot [w] = res w from Nat.add_zero _, tot, Nat.add_comm]
theorem value_sum_eq {x y : List Nat} (h : tot x % 32767 = tot y % 32767) : value (sumW x) = value (sumW y) := by
  rw [value_iff, res_sum, res_sum, h]
theorem value_two (a b : List Nat) : value (add (sumW a) (sumW b)) = value (sumW (a ++ b)) := by
  rw [value_iff, res_sum, res_add, res_sum, res_sum, tot_app]
  omega
theorem rev_getD {l : List Nat} {j : Nat} (h : j < l.length) : l.reverse.getD j 0 = l.getD (l.length - 1 - j) 0 := by
  rw [List.getD_eq_getElem?_getD, List.getD_eq_getElem?_getD, List.getElem?_reverse h]
set_option maxHeartbeats 1000000 in
theorem f10 (a b : List Nat) (ha : WB a) (hb : WB b) (hal : a.length ≤ 1048576) (hbl : b.length ≤ 1048576) : PureCall Try.prog 10 [.pv (wordsP a), .pv (wordsP b)] (bb true) := by
  have hxl : ([] ++ a ++ b).length = a.length + b.length := by simp
  have hyl : ([] ++ b ++ a).length = b.length + a.length := by simp
  have hxB : WB ([] ++ a ++ b) := ⟨by rw [hxl]; omega, fun w hw => by
    rw [List.nil_append] at hw
    rcases List.mem_append.mp hw with hw | hw
    · exact ha.2 w hw
    · exact hb.2 w hw⟩
  have hyB : WB ([] ++ b ++ a) := ⟨by rw [hyl]; omega, fun w hw => by
    rw [List.nil_append] at hw
    rcases List.mem_append.mp hw with hw | hw
    · exact hb.2 w hw
    · exact ha.2 w hw⟩
  have hrB : WB ([] ++ a ++ b).reverse := ⟨by rw [List.length_reverse]; exact hxB.1, fun w hw => hxB.2 w (List.mem_reverse.mp hw)⟩
  have ht1 : tot ([] ++ a ++ b) = tot a + tot b := by rw [List.nil_append, tot_app]
  have e1 : value (sumW ([] ++ b ++ a)) = value (sumW ([] ++ a ++ b)) := value_sum_eq (by rw [List.nil_append, List.nil_append, tot_app, tot_app, Nat.add_comm])
  have e2 : value (sumW ([] ++ a ++ b).reverse) = value (sumW ([] ++ a ++ b)) := value_sum_eq (by rw [tot_rev])
  have e3 : value (add (sumW a) (sumW b)) = value (sumW ([] ++ a ++ b)) := by rw [value_two, List.nil_append]
  have hs := fun l => sum_lt l 0 (by decide)
  refine PureCall.body tab_ok (by kernel_rfl) Try.func10 rfl rfl rfl ?_
  refine awp_piece tab_ok mixed ?_
  conv => whnf
  repeat (first | ((with_reducible first | apply ga | apply gb | apply gc | apply gd | apply ge | apply gf | apply gg | apply gh | apply gi | apply gj); conv => whnf) | (refine ⟨⟨rfl, rfl, nle rfl, nle rfl⟩, ?_⟩; conv => whnf) | fail)
  refine awp_pieceM tab_ok mixed (mkSt 62 [(0, .pv (wordsP a)), (1, .pv (wordsP b)), (5, .pv (wordsP ([] ++ a ++ b)))] []) True (fun K hK => ?_) (fun _ => ?_)
  · conv => whnf
    repeat (first | ((with_reducible first | apply ga | apply gb | apply gc | apply gd | apply ge | apply gf | apply gg | apply gh | apply gi | apply gj); conv => whnf) | (refine ⟨⟨rfl, rfl, nle rfl, nle rfl⟩, ?_⟩; conv => whnf) | fail)
    refine ⟨⟨rfl, rfl, rfl, rfl, rfl, rfl, rfl, by show (0 + a.length) * 2 ≤ _; omega⟩, ?_⟩
    conv => whnf
    repeat (first | ((with_reducible first | apply ga | apply gb | apply gc | apply gd | apply ge | apply gf | apply gg | apply gh | apply gi | apply gj); conv => whnf) | (refine ⟨⟨rfl, rfl, nle rfl, nle rfl⟩, ?_⟩; conv => whnf) | fail)
    refine ⟨⟨rfl, rfl, rfl, rfl, rfl, rfl, rfl, by show (0 + a.length + b.length) * 2 ≤ _; omega⟩, ?_⟩
    conv => whnf
    repeat (first | ((with_reducible first | apply ga | apply gb | apply gc | apply gd | apply ge | apply gf | apply gg | apply gh | apply gi | apply gj); conv => whnf) | (refine ⟨⟨rfl, rfl, nle rfl, nle rfl⟩, ?_⟩; conv => whnf) | fail)
    refine hK _ trivial (SubS.mk [10] rfl ⟨⟨_, rfl, .same⟩, ⟨_, rfl, .same⟩, ⟨_, rfl, VLe.frzO (E := 39) (g := 2) (L := [] ++ a ++ b) rfl rfl ?_ ?_⟩, trivial⟩ trivial)
    · dsimp only
      refine CellsA.row (CellsA.cat (CellsA.cat (L := []) ?_ ?_ ?_) ?_ ?_) rfl rfl ?_
      all_goals first
        | (intro i j hi hj; exact absurd hi (Nat.not_lt_zero i))
        | (intro i j hi hj; have hj0 : j = 0 := Nat.lt_one_iff.mp hj; subst hj0; exact .same)
        | rfl
        | simp
    · simp
  refine awp_pieceM tab_ok mixed (mkSt 62 [(0, .pv (wordsP a)), (1, .pv (wordsP b)), (5, .pv (wordsP ([] ++ a ++ b))), (6, .pv (wordsP ([] ++ b ++ a)))] []) True (fun K hK => ?_) (fun _ => ?_)
  · conv => whnf
    repeat (first | ((with_reducible first | apply ga | apply gb | apply gc | apply gd | apply ge | apply gf | apply gg | apply gh | apply gi | apply gj); conv => whnf) | (refine ⟨⟨rfl, rfl, nle rfl, nle rfl⟩, ?_⟩; conv => whnf) | fail)
    refine ⟨⟨rfl, rfl, rfl, rfl, rfl, rfl, rfl, by show (0 + b.length) * 2 ≤ _; omega⟩, ?_⟩
    conv => whnf
    repeat (first | ((with_reducible first | apply ga | apply gb | apply gc | apply gd | apply ge | apply gf | apply gg | apply gh | apply gi | apply gj); conv => whnf) | (refine ⟨⟨rfl, rfl, nle rfl, nle rfl⟩, ?_⟩; conv => whnf) | fail)
    refine ⟨⟨rfl, rfl, rfl, rfl, rfl, rfl, rfl, by show (0 + b.length + a.length) * 2 ≤ _; omega⟩, ?_⟩
    conv => whnf
    repeat (first | ((with_reducible first | apply ga | apply gb | apply gc | apply gd | apply ge | apply gf | apply gg | apply gh | apply gi | apply gj); conv => whnf) | (refine ⟨⟨rfl, rfl, nle rfl, nle rfl⟩, ?_⟩; conv => whnf) | fail)
    refine hK _ trivial (SubS.mk [15] rfl ⟨⟨_, rfl, .same⟩, ⟨_, rfl, .same⟩, ⟨_, rfl, .same⟩, ⟨_, rfl, VLe.frzO (E := 39) (g := 2) (L := [] ++ b ++ a) rfl rfl ?_ ?_⟩, trivial⟩ trivial)
    · dsimp only
      refine CellsA.row (CellsA.cat (CellsA.cat (L := []) ?_ ?_ ?_) ?_ ?_) rfl rfl ?_
      all_goals first
        | (intro i j hi hj; exact absurd hi (Nat.not_lt_zero i))
        | (intro i j hi hj; have hj0 : j = 0 := Nat.lt_one_iff.mp hj; subst hj0; exact .same)
        | rfl
        | simp
    · simp
  obtain ⟨X, hX⟩ : ∃ X, X = [] ++ a ++ b := ⟨_, rfl⟩
  obtain ⟨Y, hY⟩ : ∃ Y, Y = [] ++ b ++ a := ⟨_, rfl⟩
  have hXl : ([] ++ a ++ b).length ≤ 2097152 := by omega
  rw [← hX] at hXl hxB hrB e1 e2 e3 ⊢
  rw [← hY] at hyB e1 ⊢
  refine awp_piece tab_ok mixed ?_
  conv => whnf
  repeat (first | ((with_reducible first | apply ga | apply gb | apply gc | apply gd | apply ge | apply gf | apply gg | apply gh | apply gi | apply gj); conv => whnf) | (refine ⟨⟨rfl, rfl, nle rfl, nle rfl⟩, ?_⟩; conv => whnf) | fail)
  refine awp_piece tab_ok mixed ?_
  conv => whnf
  repeat (first | ((with_reducible first | apply ga | apply gb | apply gc | apply gd | apply ge | apply gf | apply gg | apply gh | apply gi | apply gj); conv => whnf) | (refine ⟨⟨rfl, rfl, nle rfl, nle rfl⟩, ?_⟩; conv => whnf) | fail)
  refine ⟨⟨by unfold inI64; omega⟩, ?_⟩
  conv => whnf
  repeat (first | ((with_reducible first | apply ga | apply gb | apply gc | apply gd | apply ge | apply gf | apply gg | apply gh | apply gi | apply gj); conv => whnf) | (refine ⟨⟨rfl, rfl, nle rfl, nle rfl⟩, ?_⟩; conv => whnf) | fail)
  refine awp_loopI (fun x : Nat × Nat × List Nat => x.1 ≤ X.length ∧ x.2.2 = X.reverse.take x.1)
    (fun x => mkSt 62 [(0, .pv (wordsP a)), (1, .pv (wordsP b)), (5, .pv (wordsP X)), (6, .pv (wordsP Y)), (7, .row 1000 x.2.1 1 0 x.2.2.length), (8, i64 ((X.length : Int) - 1 - x.1))] [(1000, rowA 39 1 wcell 0 x.2.1 x.2.2)]) (fun x => X.length - x.1) (0, 0, []) ⟨Nat.zero_le _, rfl⟩
    (SubS.mkN [] [] rfl rfl rfl ⟨⟨_, rfl, .same⟩, ⟨_, rfl, .same⟩, ⟨_, rfl, .same⟩, ⟨_, rfl, .same⟩, ⟨_, rfl, .void _ _ _⟩, ⟨_, rfl, VLe.int (by dsimp only; omega)⟩, trivial⟩ ⟨.inr (.inl ⟨rfl, rfl⟩), trivial⟩) ?_
  rintro ⟨j, g, T⟩ ⟨hj, hT⟩
  dsimp only at hj hT ⊢
  have hTl : T.length = j := by rw [hT, List.length_take, List.length_reverse]; omega
  refine awp_piece tab_ok mixed ?_
  conv => whnf
  repeat (first | ((with_reducible first | apply ga | apply gb | apply gc | apply gd | apply ge | apply gf | apply gg | apply gh | apply gi | apply gj); conv => whnf) | (refine ⟨⟨rfl, rfl, nle rfl, nle rfl⟩, ?_⟩; conv => whnf) | fail)
  refine ⟨fun hc => ?_, fun hc => ?_⟩ <;> replace hc := nm hc <;> (try rw [Int.toNat_zero] at hc) <;> (try rw [Int.toNat_one] at hc)
  · have hlt : j < X.length := by omega
    have ei : ((X.length : Int) - 1 - j).toNat = X.length - 1 - j := by omega
    conv => whnf
    repeat (first | ((with_reducible first | apply ga | apply gb | apply gc | apply gd | apply ge | apply gf | apply gg | apply gh | apply gi | apply gj); conv => whnf) | (refine ⟨⟨rfl, rfl, nle rfl, nle rfl⟩, ?_⟩; conv => whnf) | fail)
    refine awp_seq (awp_block ?_)
    refine awp_last tab_ok mixed ?_
    conv => whnf
    repeat (first | ((with_reducible first | apply ga | apply gb | apply gc | apply gd | apply ge | apply gf | apply gg | apply gh | apply gi | apply gj); conv => whnf) | (refine ⟨⟨rfl, rfl, nle rfl, nle rfl⟩, ?_⟩; conv => whnf) | fail)
    refine ⟨⟨by omega, by omega, rfl⟩, ?_⟩
    conv => whnf
    repeat (first | ((with_reducible first | apply ga | apply gb | apply gc | apply gd | apply ge | apply gf | apply gg | apply gh | apply gi | apply gj); conv => whnf) | (refine ⟨⟨rfl, rfl, nle rfl, nle rfl⟩, ?_⟩; conv => whnf) | fail)
    refine ⟨⟨by decide⟩, ?_⟩
    conv => whnf
    repeat (first | ((with_reducible first | apply ga | apply gb | apply gc | apply gd | apply ge | apply gf | apply gg | apply gh | apply gi | apply gj); conv => whnf) | (refine ⟨⟨rfl, rfl, nle rfl, nle rfl⟩, ?_⟩; conv => whnf) | fail)
    refine ⟨⟨⟨rfl, rfl, rfl, nle rfl⟩, rfl, rfl, rfl, rfl, rfl, rfl, by show (T.length + 1) * 2 ≤ _; omega⟩, ?_⟩
    conv => whnf
    repeat (first | ((with_reducible first | apply ga | apply gb | apply gc | apply gd | apply ge | apply gf | apply gg | apply gh | apply gi | apply gj); conv => whnf) | (refine ⟨⟨rfl, rfl, nle rfl, nle rfl⟩, ?_⟩; conv => whnf) | fail)
    rw [ei]
    refine awp_last tab_ok mixed ?_
    conv => whnf
    repeat (first | ((with_reducible first | apply ga | apply gb | apply gc | apply gd | apply ge | apply gf | apply gg | apply gh | apply gi | apply gj); conv => whnf) | (refine ⟨⟨rfl, rfl, nle rfl, nle rfl⟩, ?_⟩; conv => whnf) | fail)
    refine ⟨⟨by unfold inI64; omega⟩, ?_⟩
    conv => whnf
    repeat (first | ((with_reducible first | apply ga | apply gb | apply gc | apply gd | apply ge | apply gf | apply gg | apply gh | apply gi | apply gj); conv => whnf) | (refine ⟨⟨rfl, rfl, nle rfl, nle rfl⟩, ?_⟩; conv => whnf) | fail)
    refine ⟨(j + 1, g + 1, T ++ [X.getD (X.length - 1 - j) 0]), ⟨hlt, ?_⟩, (SubS.mkN [] [(1000, 1000)] rfl rfl rfl ⟨⟨_, rfl, .same⟩, ⟨_, rfl, .same⟩, ⟨_, rfl, .same⟩, ⟨_, rfl, .same⟩, ⟨_, rfl, .row _ _ _ _ _ _ _ _ _ rfl rfl rfl (by simp)⟩, ⟨_, rfl, VLe.int (by dsimp only; omega)⟩, trivial⟩ ⟨.inl ⟨_, _, rfl, rfl, rfl, OLe.snocA rfl rfl rfl rfl rfl fun k hk => ?_⟩, trivial⟩), by dsimp only; omega⟩
    · dsimp only
      rw [take_sn (d := 0) (by rw [List.length_reverse]; exact hlt), rev_getD hlt, hT]
    · have hk0 : k = 0 := Nat.lt_one_iff.mp hk
      subst hk0
      exact .same
  · have e : T = X.reverse := by rw [hT, List.take_of_length_le (by rw [List.length_reverse]; omega)]
    subst e
    conv => whnf
    repeat (first | ((with_reducible first | apply ga | apply gb | apply gc | apply gd | apply ge | apply gf | apply gg | apply gh | apply gi | apply gj); conv => whnf) | (refine ⟨⟨rfl, rfl, nle rfl, nle rfl⟩, ?_⟩; conv => whnf) | fail)
    refine awp_piece tab_ok mixed ?_
    conv => whnf
    repeat (first | ((with_reducible first | apply ga | apply gb | apply gc | apply gd | apply ge | apply gf | apply gg | apply gh | apply gi | apply gj); conv => whnf) | (refine ⟨⟨rfl, rfl, nle rfl, nle rfl⟩, ?_⟩; conv => whnf) | fail)
    refine CallK.flat [] (f21 X hxB) ⟨.same, trivial⟩ rfl ?_
    conv => whnf
    repeat (first | ((with_reducible first | apply ga | apply gb | apply gc | apply gd | apply ge | apply gf | apply gg | apply gh | apply gi | apply gj); conv => whnf) | (refine ⟨⟨rfl, rfl, nle rfl, nle rfl⟩, ?_⟩; conv => whnf) | fail)
    refine CallK.flat [] (f30 (sumW X) (hs X)) ⟨.same, trivial⟩ rfl ?_
    conv => whnf
    repeat (first | ((with_reducible first | apply ga | apply gb | apply gc | apply gd | apply ge | apply gf | apply gg | apply gh | apply gi | apply gj); conv => whnf) | (refine ⟨⟨rfl, rfl, nle rfl, nle rfl⟩, ?_⟩; conv => whnf) | fail)
    refine awp_last tab_ok mixed ?_
    conv => whnf
    repeat (first | ((with_reducible first | apply ga | apply gb | apply gc | apply gd | apply ge | apply gf | apply gg | apply gh | apply gi | apply gj); conv => whnf) | (refine ⟨⟨rfl, rfl, nle rfl, nle rfl⟩, ?_⟩; conv => whnf) | fail)
    refine CallK.flat [] (f21 Y hyB) ⟨.same, trivial⟩ rfl ?_
    conv => whnf
    repeat (first | ((with_reducible first | apply ga | apply gb | apply gc | apply gd | apply ge | apply gf | apply gg | apply gh | apply gi | apply gj); conv => whnf) | (refine ⟨⟨rfl, rfl, nle rfl, nle rfl⟩, ?_⟩; conv => whnf) | fail)
    refine CallK.flat [] (f30 (sumW Y) (hs Y)) ⟨.same, trivial⟩ rfl ?_
    conv => whnf
    repeat (first | ((with_reducible first | apply ga | apply gb | apply gc | apply gd | apply ge | apply gf | apply gg | apply gh | apply gi | apply gj); conv => whnf) | (refine ⟨⟨rfl, rfl, nle rfl, nle rfl⟩, ?_⟩; conv => whnf) | fail)
    rw [e1]
    refine ⟨fun _ => ?_, fun h => absurd h (by simp)⟩
    conv => whnf
    repeat (first | ((with_reducible first | apply ga | apply gb | apply gc | apply gd | apply ge | apply gf | apply gg | apply gh | apply gi | apply gj); conv => whnf) | (refine ⟨⟨rfl, rfl, nle rfl, nle rfl⟩, ?_⟩; conv => whnf) | fail)
    refine CallK.flat [1000] (f21 X.reverse hrB) ⟨VLe.frzA rfl rfl rfl, trivial⟩ rfl ?_
    conv => whnf
    repeat (first | ((with_reducible first | apply ga | apply gb | apply gc | apply gd | apply ge | apply gf | apply gg | apply gh | apply gi | apply gj); conv => whnf) | (refine ⟨⟨rfl, rfl, nle rfl, nle rfl⟩, ?_⟩; conv => whnf) | fail)
    refine CallK.flat [] (f30 (sumW X.reverse) (hs _)) ⟨.same, trivial⟩ rfl ?_
    conv => whnf
    repeat (first | ((with_reducible first | apply ga | apply gb | apply gc | apply gd | apply ge | apply gf | apply gg | apply gh | apply gi | apply gj); conv => whnf) | (refine ⟨⟨rfl, rfl, nle rfl, nle rfl⟩, ?_⟩; conv => whnf) | fail)
    rw [e2]
    refine ⟨fun _ => ?_, fun h => absurd h (by simp)⟩
    conv => whnf
    repeat (first | ((with_reducible first | apply ga | apply gb | apply gc | apply gd | apply ge | apply gf | apply gg | apply gh | apply gi | apply gj); conv => whnf) | (refine ⟨⟨rfl, rfl, nle rfl, nle rfl⟩, ?_⟩; conv => whnf) | fail)
    refine CallK.flat [] (f21 a ha) ⟨.same, trivial⟩ rfl ?_
    conv => whnf
    repeat (first | ((with_reducible first | apply ga | apply gb | apply gc | apply gd | apply ge | apply gf | apply gg | apply gh | apply gi | apply gj); conv => whnf) | (refine ⟨⟨rfl, rfl, nle rfl, nle rfl⟩, ?_⟩; conv => whnf) | fail)
    refine CallK.flat [] (f21 b hb) ⟨.same, trivial⟩ rfl ?_
    conv => whnf
    repeat (first | ((with_reducible first | apply ga | apply gb | apply gc | apply gd | apply ge | apply gf | apply gg | apply gh | apply gi | apply gj); conv => whnf) | (refine ⟨⟨rfl, rfl, nle rfl, nle rfl⟩, ?_⟩; conv => whnf) | fail)
    refine CallK.flat [] (f31 (sumW a) (sumW b) (hs _) (hs _)) ⟨.same, .same, trivial⟩ rfl ?_
    conv => whnf
    repeat (first | ((with_reducible first | apply ga | apply gb | apply gc | apply gd | apply ge | apply gf | apply gg | apply gh | apply gi | apply gj); conv => whnf) | (refine ⟨⟨rfl, rfl, nle rfl, nle rfl⟩, ?_⟩; conv => whnf) | fail)
    refine CallK.flat [] (f30 (add (sumW a) (sumW b)) (Nat.lt_trans (add_lt _ _) (by decide))) ⟨.same, trivial⟩ rfl ?_
    conv => whnf
    repeat (first | ((with_reducible first | apply ga | apply gb | apply gc | apply gd | apply ge | apply gf | apply gg | apply gh | apply gi | apply gj); conv => whnf) | (refine ⟨⟨rfl, rfl, nle rfl, nle rfl⟩, ?_⟩; conv => whnf) | fail)
    rw [e3]
    refine ⟨fun _ => ?_, fun h => absurd h (by simp)⟩
    conv => whnf
    repeat (first | ((with_reducible first | apply ga | apply gb | apply gc | apply gd | apply ge | apply gf | apply gg | apply gh | apply gi | apply gj); conv => whnf) | (refine ⟨⟨rfl, rfl, nle rfl, nle rfl⟩, ?_⟩; conv => whnf) | fail)
    refine CallK.flat [] f15 trivial rfl ?_
    conv => whnf
    repeat (first | ((with_reducible first | apply ga | apply gb | apply gc | apply gd | apply ge | apply gf | apply gg | apply gh | apply gi | apply gj); conv => whnf) | (refine ⟨⟨rfl, rfl, nle rfl, nle rfl⟩, ?_⟩; conv => whnf) | fail)
    exact done_bool _ _ rfl rfl rfl
end Go.Proofs.Ytioccpodnkllfaa
