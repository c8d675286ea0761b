/- Part of the proof: what the functions that the law calls compute (2). -/
import Derived.Test.YtioccpodnkllfaaV1
namespace Go.Proofs.Ytioccpodnkllfaa
open Go Go.AM
attribute [local irreducible] AWP CallK PureCall SubS HeapCall
def bcell (n : Nat) (_ : Nat) : PV := .int .u8 n
def bytesP (L : List Nat) : PV := sqA 5 1 bcell 0 L
def BtB (L : List Nat) : Prop := L.length < 2 ^ 48 ∧ ∀ x ∈ L, x < 256
theorem btB {L : List Nat} (h : BtB L) (i : Nat) : L.getD i 0 < 256 := by
  rw [List.getD_eq_getElem?_getD]
  by_cases hi : i < L.length
  · rw [List.getElem?_eq_getElem hi]; exact h.2 _ (List.getElem_mem hi)
  · rw [List.getElem?_eq_none (by omega)]; decide
def two (n : Nat) : List Nat := [putW n / 256, putW n % 256]
theorem hi8 (n : Nat) (h : putW n < 65536) : ((putW n : Nat) : Int).fdiv (2 ^ (min (8 : Int).toNat IntKind.u16.bits)) % 256 = ((putW n / 256 : Nat) : Int) := by
  rw [show min (8 : Int).toNat IntKind.u16.bits = 8 from rfl, Int.fdiv_eq_ediv_of_nonneg _ (by decide)]
  omega
theorem f49 (L : List Nat) (g n : Nat) (hn : n < 65536) (hL : L.length < 2 ^ 40) : HeapCall Try.prog 49 [.row 100 g 1 0 L.length, i64 n] [(100, rowA 5 1 bcell 0 g L)]
    (fun r Hout => ∃ g', r = .row 200 g' 1 0 (L.length + 2) ∧ Hout = [(200, rowA 5 1 bcell 0 g' (L ++ two n))]) := by
  have hp := putW_lt n
  refine HeapCall.run tab_ok mixed (by kernel_rfl) Try.func49 rfl rfl rfl ?_
  conv => whnf
  repeat (first | ((with_reducible first | apply ga | apply gb | apply gc | apply gd | apply ge | apply gf | apply gg | apply gh | apply gi | apply gj); conv => whnf) | (refine ⟨⟨rfl, rfl, nle rfl, nle rfl⟩, ?_⟩; conv => whnf) | fail)
  refine CallK.flat [] (f68 n hn) ⟨VLe.int (wn16 (by omega) (by omega)), trivial⟩ rfl ?_
  conv => whnf
  repeat (first | ((with_reducible first | apply ga | apply gb | apply gc | apply gd | apply ge | apply gf | apply gg | apply gh | apply gi | apply gj); conv => whnf) | (refine ⟨⟨rfl, rfl, nle rfl, nle rfl⟩, ?_⟩; conv => whnf) | fail)
  refine ⟨⟨by decide⟩, ?_⟩
  conv => whnf
  repeat (first | ((with_reducible first | apply ga | apply gb | apply gc | apply gd | apply ge | apply gf | apply gg | apply gh | apply gi | apply gj); conv => whnf) | (refine ⟨⟨rfl, rfl, nle rfl, nle rfl⟩, ?_⟩; conv => whnf) | fail)
  refine ⟨⟨⟨rfl, rfl, rfl, nle rfl⟩, rfl, rfl, rfl, rfl, rfl, rfl, by show (L.length + 2) * 1 ≤ _; omega⟩, ?_⟩
  conv => whnf
  repeat (first | ((with_reducible first | apply ga | apply gb | apply gc | apply gd | apply ge | apply gf | apply gg | apply gh | apply gi | apply gj); conv => whnf) | (refine ⟨⟨rfl, rfl, nle rfl, nle rfl⟩, ?_⟩; conv => whnf) | fail)
  refine ⟨_, _, ⟨g + 1, rfl, rfl⟩, SubS.mkN [] [(200, 100)] rfl rfl rfl ⟨⟨_, rfl, .row _ _ _ _ _ _ _ _ _ rfl rfl rfl rfl⟩, trivial⟩ ⟨.inl ⟨_, _, rfl, rfl, rfl, OLe.catA rfl rfl rfl rfl rfl fun i j hi hj => ?_⟩, trivial⟩⟩
  have hj0 : j = 0 := Nat.lt_one_iff.mp hj
  subst hj0
  match i, hi with
  | 0, _ => exact VLe.int (w8 _ |>.trans (hi8 n hp))
  | 1, _ => exact VLe.int (w8 _ |>.trans (by show ((putW n : Nat) : Int) % 256 = ((putW n % 256 : Nat) : Int); omega))
def twos (ws : List Nat) : List Nat := ws.flatMap two
theorem take_sn {α : Type} {L : List α} {i : Nat} {d : α} (h : i < L.length) : L.take (i + 1) = L.take i ++ [L.getD i d] := by
  rw [List.take_add_one]; simp [h]
theorem twos_sn (ws : List Nat) (w : Nat) : twos (ws ++ [w]) = twos ws ++ two w := by unfold twos; rw [List.flatMap_append]; simp
theorem twos_len : ∀ ws : List Nat, (twos ws).length = 2 * ws.length
  | [] => rfl
  | w :: ws => by
    have : twos (w :: ws) = two w ++ twos ws := rfl
    rw [this, List.length_append, twos_len ws]; simp [two]; omega
set_option maxHeartbeats 1000000 in
theorem f48 (L ws : List Nat) (g : Nat) (hw : WB ws) (hL : L.length < 2 ^ 40) (hl : ws.length < 2 ^ 40) : HeapCall Try.prog 48 [.row 100 g 1 0 L.length, .pv (wordsP ws)] [(100, rowA 5 1 bcell 0 g L)]
    (fun r Hout => ∃ g', r = .row 200 g' 1 0 (L ++ twos ws).length ∧ Hout = [(200, rowA 5 1 bcell 0 g' (L ++ twos ws))]) := by
  refine HeapCall.run tab_ok mixed (by kernel_rfl) Try.func48 rfl rfl rfl ?_
  conv => whnf
  repeat (first | ((with_reducible first | apply ga | apply gb | apply gc | apply gd | apply ge | apply gf | apply gg | apply gh | apply gi | apply gj); conv => whnf) | (refine ⟨⟨rfl, rfl, nle rfl, nle rfl⟩, ?_⟩; conv => whnf) | fail)
  refine ex_loop tab_ok mixed (fun x : Nat × Nat × List Nat => x.1 ≤ ws.length ∧ x.2.2 = L ++ twos (ws.take x.1)) (fun x => mkSt 26 [(0, .row 1000 x.2.1 1 0 x.2.2.length), (8, .pv (wordsP ws)), (9, i64 ws.length), (10, i64 x.1)] [(1000, rowA 5 1 bcell 0 x.2.1 x.2.2)]) (fun x => ws.length - x.1) (0, g, L) ⟨Nat.zero_le _, by simp [twos]⟩ (SubS.mkN [] [(1000, 100)] rfl rfl rfl ⟨⟨_, rfl, .row _ _ _ _ _ _ _ _ _ rfl rfl rfl rfl⟩, ⟨_, rfl, .same⟩, ⟨_, rfl, .same⟩, ⟨_, rfl, .same⟩, trivial⟩ ⟨.inl ⟨_, _, rfl, rfl, rfl, .keepA⟩, trivial⟩) ?_
  rintro ⟨i, g1, X⟩ ⟨hi, hX⟩
  dsimp only at hi hX ⊢
  have hXl : X.length = L.length + 2 * i := by rw [hX, List.length_append, twos_len, List.length_take, Nat.min_eq_left hi]
  conv => whnf
  repeat (first | ((with_reducible first | apply ga | apply gb | apply gc | apply gd | apply ge | apply gf | apply gg | apply gh | apply gi | apply gj); conv => whnf) | (refine ⟨⟨rfl, rfl, nle rfl, nle rfl⟩, ?_⟩; conv => whnf) | fail)
  refine ⟨fun hc => ?_, fun hc => ?_⟩ <;> replace hc := nm hc <;> (try rw [Int.toNat_zero] at hc) <;> (try rw [Int.toNat_one] at hc)
  · have hlt : i < ws.length := by omega
    have hb := wB hw hlt
    have hp := putW_lt (ws.getD i 0)
    conv => whnf
    repeat (first | ((with_reducible first | apply ga | apply gb | apply gc | apply gd | apply ge | apply gf | apply gg | apply gh | apply gi | apply gj); conv => whnf) | (refine ⟨⟨rfl, rfl, nle rfl, nle rfl⟩, ?_⟩; conv => whnf) | fail)
    refine ⟨⟨by omega, by omega, rfl⟩, ?_⟩
    conv => whnf
    repeat (first | ((with_reducible first | apply ga | apply gb | apply gc | apply gd | apply ge | apply gf | apply gg | apply gh | apply gi | apply gj); conv => whnf) | (refine ⟨⟨rfl, rfl, nle rfl, nle rfl⟩, ?_⟩; conv => whnf) | fail)
    refine ⟨⟨by decide⟩, ?_⟩
    conv => whnf
    repeat (first | ((with_reducible first | apply ga | apply gb | apply gc | apply gd | apply ge | apply gf | apply gg | apply gh | apply gi | apply gj); conv => whnf) | (refine ⟨⟨rfl, rfl, nle rfl, nle rfl⟩, ?_⟩; conv => whnf) | fail)
    refine CallK.flat [] (f67 (ws.getD i 0) hb) ⟨.same, trivial⟩ rfl ?_
    conv => whnf
    repeat (first | ((with_reducible first | apply ga | apply gb | apply gc | apply gd | apply ge | apply gf | apply gg | apply gh | apply gi | apply gj); conv => whnf) | (refine ⟨⟨rfl, rfl, nle rfl, nle rfl⟩, ?_⟩; conv => whnf) | fail)
    refine ⟨⟨by decide⟩, ?_⟩
    conv => whnf
    repeat (first | ((with_reducible first | apply ga | apply gb | apply gc | apply gd | apply ge | apply gf | apply gg | apply gh | apply gi | apply gj); conv => whnf) | (refine ⟨⟨rfl, rfl, nle rfl, nle rfl⟩, ?_⟩; conv => whnf) | fail)
    refine ⟨⟨⟨rfl, rfl, rfl, nle rfl⟩, rfl, rfl, rfl, rfl, rfl, rfl, by show (X.length + 2) * 1 ≤ _; omega⟩, ?_⟩
    conv => whnf
    repeat (first | ((with_reducible first | apply ga | apply gb | apply gc | apply gd | apply ge | apply gf | apply gg | apply gh | apply gi | apply gj); conv => whnf) | (refine ⟨⟨rfl, rfl, nle rfl, nle rfl⟩, ?_⟩; conv => whnf) | fail)
    refine ⟨⟨by unfold inI64; omega⟩, ?_⟩
    conv => whnf
    repeat (first | ((with_reducible first | apply ga | apply gb | apply gc | apply gd | apply ge | apply gf | apply gg | apply gh | apply gi | apply gj); conv => whnf) | (refine ⟨⟨rfl, rfl, nle rfl, nle rfl⟩, ?_⟩; conv => whnf) | fail)
    refine ⟨(i + 1, g1 + 1, X ++ two (ws.getD i 0)), ⟨hlt, by dsimp only; rw [take_sn (d := 0) hlt, twos_sn, hX, List.append_assoc]⟩, SubS.mkN [] [(1000, 1000)] rfl rfl rfl ⟨⟨_, rfl, .row _ _ _ _ _ _ _ _ _ rfl rfl rfl (by simp [two])⟩, ⟨_, rfl, .same⟩, ⟨_, rfl, .same⟩, ⟨_, rfl, .same⟩, trivial⟩ ⟨.inl ⟨_, _, rfl, rfl, rfl, OLe.catA rfl rfl rfl rfl rfl fun k j hk hj => ?_⟩, trivial⟩, by dsimp only; omega⟩
    have hj0 : j = 0 := Nat.lt_one_iff.mp hj
    subst hj0
    match k, hk with
    | 0, _ => exact VLe.int (w8 _ |>.trans (hi8 _ hp))
    | 1, _ => exact VLe.int (w8 _ |>.trans (by show ((putW (ws.getD i 0) : Nat) : Int) % 256 = ((putW (ws.getD i 0) % 256 : Nat) : Int); omega))
  · rw [List.take_of_length_le (by omega)] at hX
    conv => whnf
    repeat (first | ((with_reducible first | apply ga | apply gb | apply gc | apply gd | apply ge | apply gf | apply gg | apply gh | apply gi | apply gj); conv => whnf) | (refine ⟨⟨rfl, rfl, nle rfl, nle rfl⟩, ?_⟩; conv => whnf) | fail)
    subst hX
    exact ⟨_, _, ⟨g1, rfl, rfl⟩, SubS.mkN [] [(200, 1000)] rfl rfl rfl ⟨⟨_, rfl, .row _ _ _ _ _ _ _ _ _ rfl rfl rfl rfl⟩, trivial⟩ ⟨.inl ⟨_, _, rfl, rfl, rfl, .keepA⟩, trivial⟩⟩
def magicL : List Nat := [80, 82, 76, 49]
theorem f50 : HeapCall Try.prog 50 [] [] (fun r Hout => r = .row 200 0 1 0 4 ∧ Hout = [(200, rowA 5 1 bcell 0 0 magicL)]) := by
  refine HeapCall.run tab_ok mixed (by kernel_rfl) Try.func50 rfl rfl rfl ?_
  conv => whnf
  repeat (first | ((with_reducible first | apply ga | apply gb | apply gc | apply gd | apply ge | apply gf | apply gg | apply gh | apply gi | apply gj); conv => whnf) | (refine ⟨⟨rfl, rfl, nle rfl, nle rfl⟩, ?_⟩; conv => whnf) | fail)
  refine ⟨_, _, ⟨rfl, rfl⟩, SubS.mkN [] [(200, 1)] rfl rfl rfl ⟨⟨_, rfl, .row _ _ _ _ _ _ _ _ _ rfl rfl rfl rfl⟩, trivial⟩ ⟨.inl ⟨_, _, rfl, rfl, rfl, CellsA.row (fun i j hi hj => ?_) rfl rfl rfl⟩, trivial⟩⟩
  have hj0 : j = 0 := Nat.lt_one_iff.mp hj
  subst hj0
  match i, hi with
  | 0, _ => exact .same
  | 1, _ => exact .same
  | 2, _ => exact .same
  | 3, _ => exact .same
end Go.Proofs.Ytioccpodnkllfaa

namespace Go.Proofs.Ytioccpodnkllfaa
open Go Go.AM
attribute [local irreducible] AWP CallK PureCall SubS HeapCall
set_option maxHeartbeats 1000000 in
theorem f20 (b : BankR) (hB : BankB b) : PureCall Try.prog 20 [b.av] (sealT (sealR b)) := by
  have hl := hB.2.1
  have hs := sum_lt b.ws 0 (by decide)
  unfold sealR
  refine PureCall.run tab_ok mixed (by kernel_rfl) Try.func20 rfl rfl rfl ?_
  conv => whnf
  repeat (first | ((with_reducible first | apply ga | apply gb | apply gc | apply gd | apply ge | apply gf | apply gg | apply gh | apply gi | apply gj); conv => whnf) | (refine ⟨⟨rfl, rfl, nle rfl, nle rfl⟩, ?_⟩; conv => whnf) | fail)
  refine CallK.flat [] (f41 b.num) ⟨.same, trivial⟩ rfl ?_
  conv => whnf
  repeat (first | ((with_reducible first | apply ga | apply gb | apply gc | apply gd | apply ge | apply gf | apply gg | apply gh | apply gi | apply gj); conv => whnf) | (refine ⟨⟨rfl, rfl, nle rfl, nle rfl⟩, ?_⟩; conv => whnf) | fail)
  refine ⟨fun h1 => ?_, fun h1 => ?_⟩ <;> replace h1 := nm h1 <;> (try rw [Int.toNat_zero] at h1) <;> (try rw [Int.toNat_one] at h1)
  · conv => whnf
    repeat (first | ((with_reducible first | apply ga | apply gb | apply gc | apply gd | apply ge | apply gf | apply gg | apply gh | apply gi | apply gj); conv => whnf) | (refine ⟨⟨rfl, rfl, nle rfl, nle rfl⟩, ?_⟩; conv => whnf) | fail)
    rw [if_pos h1]
    exact done_tup [b0.av, i64 3] [] rfl ⟨agg2 .same .nilA, .same, trivial⟩
  · rw [if_neg (by rw [h1]; decide)]
    have hn := num_in (n := b.num) (by rw [h1]; decide)
    conv => whnf
    repeat (first | ((with_reducible first | apply ga | apply gb | apply gc | apply gd | apply ge | apply gf | apply gg | apply gh | apply gi | apply gj); conv => whnf) | (refine ⟨⟨rfl, rfl, nle rfl, nle rfl⟩, ?_⟩; conv => whnf) | fail)
    refine ⟨fun h2 => ?_, fun h2 => ?_⟩ <;> replace h2 := nm h2 <;> (try rw [Int.toNat_zero] at h2) <;> (try rw [Int.toNat_one] at h2)
    · conv => whnf
      repeat (first | ((with_reducible first | apply ga | apply gb | apply gc | apply gd | apply ge | apply gf | apply gg | apply gh | apply gi | apply gj); conv => whnf) | (refine ⟨⟨rfl, rfl, nle rfl, nle rfl⟩, ?_⟩; conv => whnf) | fail)
      rw [if_pos h2]
      exact done_tup [b0.av, i64 13] [] rfl ⟨agg2 .same .nilA, .same, trivial⟩
    · rw [if_neg (by omega)]
      conv => whnf
      repeat (first | ((with_reducible first | apply ga | apply gb | apply gc | apply gd | apply ge | apply gf | apply gg | apply gh | apply gi | apply gj); conv => whnf) | (refine ⟨⟨rfl, rfl, nle rfl, nle rfl⟩, ?_⟩; conv => whnf) | fail)
      refine CallK.flat [] (f42 b.ws hB.2) ⟨.same, trivial⟩ rfl ?_
      conv => whnf
      repeat (first | ((with_reducible first | apply ga | apply gb | apply gc | apply gd | apply ge | apply gf | apply gg | apply gh | apply gi | apply gj); conv => whnf) | (refine ⟨⟨rfl, rfl, nle rfl, nle rfl⟩, ?_⟩; conv => whnf) | fail)
      refine ⟨fun h3 => ?_, fun h3 => ?_⟩ <;> replace h3 := nm h3 <;> (try rw [Int.toNat_zero] at h3) <;> (try rw [Int.toNat_one] at h3)
      · conv => whnf
        repeat (first | ((with_reducible first | apply ga | apply gb | apply gc | apply gd | apply ge | apply gf | apply gg | apply gh | apply gi | apply gj); conv => whnf) | (refine ⟨⟨rfl, rfl, nle rfl, nle rfl⟩, ?_⟩; conv => whnf) | fail)
        rw [if_pos h3]
        exact done_tup [b0.av, i64 3] [] rfl ⟨agg2 .same .nilA, .same, trivial⟩
      · rw [if_neg (by rw [h3]; decide)]
        conv => whnf
        repeat (first | ((with_reducible first | apply ga | apply gb | apply gc | apply gd | apply ge | apply gf | apply gg | apply gh | apply gi | apply gj); conv => whnf) | (refine ⟨⟨rfl, rfl, nle rfl, nle rfl⟩, ?_⟩; conv => whnf) | fail)
        refine CallK.flat [] (f43 b.num (by omega) (by omega)) ⟨.same, trivial⟩ rfl ?_
        conv => whnf
        repeat (first | ((with_reducible first | apply ga | apply gb | apply gc | apply gd | apply ge | apply gf | apply gg | apply gh | apply gi | apply gj); conv => whnf) | (refine ⟨⟨rfl, rfl, nle rfl, nle rfl⟩, ?_⟩; conv => whnf) | fail)
        refine ⟨⟨rfl, by show b.ws.length * 2 ≤ _; omega⟩, ?_⟩
        conv => whnf
        repeat (first | ((with_reducible first | apply ga | apply gb | apply gc | apply gd | apply ge | apply gf | apply gg | apply gh | apply gi | apply gj); conv => whnf) | (refine ⟨⟨rfl, rfl, nle rfl, nle rfl⟩, ?_⟩; conv => whnf) | fail)
        refine ⟨_, [], ⟨_, (f22 b.ws hB.2), ⟨.same, trivial⟩, .inl rfl⟩, ?_⟩
        conv => whnf
        repeat (first | ((with_reducible first | apply ga | apply gb | apply gc | apply gd | apply ge | apply gf | apply gg | apply gh | apply gi | apply gj); conv => whnf) | (refine ⟨⟨rfl, rfl, nle rfl, nle rfl⟩, ?_⟩; conv => whnf) | fail)
        refine ⟨_, [], ⟨_, (f45 (sumW b.ws) hs), ⟨.same, trivial⟩, .inl rfl⟩, ?_⟩
        conv => whnf
        repeat (first | ((with_reducible first | apply ga | apply gb | apply gc | apply gd | apply ge | apply gf | apply gg | apply gh | apply gi | apply gj); conv => whnf) | (refine ⟨⟨rfl, rfl, nle rfl, nle rfl⟩, ?_⟩; conv => whnf) | fail)
        refine ⟨_, [], ⟨_, (f44 (ofW b.num) (neg (sumW b.ws)) (by have := ofW_lt (n := b.num) (by omega) (by omega); omega) (neg_lt _)), ⟨.same, .same, trivial⟩, .inl rfl⟩, ?_⟩
        conv => whnf
        repeat (first | ((with_reducible first | apply ga | apply gb | apply gc | apply gd | apply ge | apply gf | apply gg | apply gh | apply gi | apply gj); conv => whnf) | (refine ⟨⟨rfl, rfl, nle rfl, nle rfl⟩, ?_⟩; conv => whnf) | fail)
        refine ⟨⟨⟨rfl, rfl, rfl, nle rfl⟩, rfl, rfl, rfl, rfl, rfl, rfl, by show (b.ws.length + 1) * 2 ≤ _; omega⟩, ?_⟩
        conv => whnf
        repeat (first | ((with_reducible first | apply ga | apply gb | apply gc | apply gd | apply ge | apply gf | apply gg | apply gh | apply gi | apply gj); conv => whnf) | (refine ⟨⟨rfl, rfl, nle rfl, nle rfl⟩, ?_⟩; conv => whnf) | fail)
        refine ⟨rfl, ?_⟩
        conv => whnf
        repeat (first | ((with_reducible first | apply ga | apply gb | apply gc | apply gd | apply ge | apply gf | apply gg | apply gh | apply gi | apply gj); conv => whnf) | (refine ⟨⟨rfl, rfl, nle rfl, nle rfl⟩, ?_⟩; conv => whnf) | fail)
        refine done_tup [BankR.av ⟨b.num, b.ws ++ [lastW b]⟩, i64 0] [35] rfl ⟨agg2 .same (VLe.frzO (E := 39) (g := 1) (L := b.ws ++ [lastW b]) rfl rfl ?_ ?_), .same, trivial⟩
        · generalize ASt.heap _ = G
          dsimp only
          refine CellsA.row (CellsA.cat ?_ ?_ (CellsA.one ?_)) rfl rfl ?_
          all_goals first
            | (intro j hj; have hj0 : j = 0 := Nat.lt_one_iff.mp hj; subst hj0; exact .same)
            | (intro i j hi hj; exact .same)
            | rfl
            | simp
        · simp
end Go.Proofs.Ytioccpodnkllfaa

namespace Go.Proofs.Ytioccpodnkllfaa
open Go Go.AM
attribute [local irreducible] AWP CallK PureCall SubS HeapCall HeapCallP HeapCallK
/-- The reader: the bytes, and where it is. -/
def rdO (L : List Nat) (a : Int) : AO := ⟨89, 0, 2, 1, fun _ j => match j with | 0 => .pv (bytesP L) | _ => i64 a⟩
def faultP (p e : Int) : PV := .agg 2 fun j => match j with | 0 => .int .i64 p | _ => .int .i64 e
def faultV (p e : Int) : AV := .pv (.ifc 85 (faultP p e))
def wordS (L : List Nat) (a : Nat) : Nat := L.getD a 0 * 256 + L.getD (a + 1) 0
def wordE (L : List Nat) (a m : Nat) : Option (Nat × Nat) :=
  if L.length < a + 2 then some (L.length, 9) else if oddF (wordS L a) 16 = false then some (a, 11) else if m < lo (wordS L a) then some (a, 5) else none
theorem flt {H : Heap} {B : List Nat} {U : List (Nat × Nat)} {f : Nat → PV} {p e : Int} (h0 : f 0 = .int .i64 p) (h1 : f 1 = .int .i64 e) : VLe H B U (.pv (.ifc 85 (.agg 2 f))) (faultV p e) :=
  .pv _ _ (.ifc _ _ _ (.agg _ _ _ fun i hi => by
    match i, hi with
    | 0, _ => rw [h0]; exact .refl _
    | 1, _ => rw [h1]; exact .refl _))
theorem rdLe {H : Heap} {B : List Nat} {U : List (Nat × Nat)} {o : AO} {L : List Nat} {a : Int} (e1 : o.E = 89) (e2 : o.gen = 0) (e3 : o.sz = 2) (e4 : o.n = 1) (h0 : VLe H B U (o.f 0 0) (.pv (bytesP L))) (h1 : VLe H B U (o.f 0 1) (i64 a)) : OLe H B U o (rdO L a) :=
  ⟨e1.symm, e2.symm, e3.symm, Nat.le_of_eq e4.symm, fun i j hi hj => by
    have hi0 : i = 0 := Nat.lt_one_iff.mp hi
    subst hi0
    rw [e3] at hj
    match j, hj with
    | 0, _ => exact h0
    | 1, _ => exact h1⟩
theorem or8 (a b : Nat) (ha : a < 256) (hb : b < 256) : bitsOf .or .u16 (IntKind.u16.wrap (IntKind.u16.wrap (a : Int) * 2 ^ (min (8 : Int).toNat IntKind.u16.bits))) (IntKind.u16.wrap (b : Int)) = ((a * 256 + b : Nat) : Int) := by
  rw [wn16 (n := (a : Int)) (by omega) (by omega), wn16 (n := (b : Int)) (by omega) (by omega), show min (8 : Int).toNat IntKind.u16.bits = 8 from rfl]
  rw [show ((a : Int) * 2 ^ 8) = ((a * 256 : Nat) : Int) by omega, wn16 (by omega) (by omega)]
  have e := or_nat (k := .u16) rfl (a := a * 256) (b := b) (by show a * 256 < 65536; omega) (by show b < 65536; omega)
  rw [e]
  have := Nat.two_pow_add_eq_or_of_lt (i := 8) (b := b) (by omega) a
  rw [show a * 256 = 2 ^ 8 * a by omega, ← this]
set_option maxHeartbeats 1000000 in
theorem f53 (L : List Nat) (hL : BtB L) (a m : Nat) (ha : a ≤ L.length) (_hm : m < 65536) : HeapCallK Try.prog 53 [.ptr 100 0 2 0 0, i64 m] [(100, rdO L a)]
    (fun r Hout => wordE L a m = none ∧ r = i64 (lo (wordS L a) : Nat) ∧ Hout = [(100, rdO L (a + 2 : Nat))])
    (fun r Hout => ∃ p e : Nat, wordE L a m = some (p, e) ∧ r = faultV p e ∧ Hout = [(100, rdO L a)]) := by
  refine HeapCallK.run tab_ok mixed (by kernel_rfl) Try.func53 rfl rfl rfl ?_
  have hl := hL.1
  conv => whnf
  repeat (first | ((with_reducible first | apply ga | apply gb | apply gc | apply gd | apply ge | apply gf | apply gg | apply gh | apply gi | apply gj); conv => whnf) | (refine ⟨⟨rfl, rfl, nle rfl, nle rfl⟩, ?_⟩; conv => whnf) | fail)
  repeat (refine ⟨⟨rfl, rfl, nle rfl, nle rfl⟩, ?_⟩; conv => whnf)
  repeat (first | ((with_reducible first | apply ga | apply gb | apply gc | apply gd | apply ge | apply gf | apply gg | apply gh | apply gi | apply gj); conv => whnf) | (refine ⟨⟨rfl, rfl, nle rfl, nle rfl⟩, ?_⟩; conv => whnf) | fail)
  refine ⟨⟨by unfold inI64; omega⟩, ?_⟩
  conv => whnf
  repeat (first | ((with_reducible first | apply ga | apply gb | apply gc | apply gd | apply ge | apply gf | apply gg | apply gh | apply gi | apply gj); conv => whnf) | (refine ⟨⟨rfl, rfl, nle rfl, nle rfl⟩, ?_⟩; conv => whnf) | fail)
  refine ⟨rfl, ?_⟩
  conv => whnf
  repeat (first | ((with_reducible first | apply ga | apply gb | apply gc | apply gd | apply ge | apply gf | apply gg | apply gh | apply gi | apply gj); conv => whnf) | (refine ⟨⟨rfl, rfl, nle rfl, nle rfl⟩, ?_⟩; conv => whnf) | fail)
  refine ⟨fun h1 => ?_, fun h1 => ?_⟩ <;> replace h1 := nm h1 <;> (try rw [Int.toNat_zero] at h1) <;> (try rw [Int.toNat_one] at h1)
  · conv => whnf
    repeat (first | ((with_reducible first | apply ga | apply gb | apply gc | apply gd | apply ge | apply gf | apply gg | apply gh | apply gi | apply gj); conv => whnf) | (refine ⟨⟨rfl, rfl, nle rfl, nle rfl⟩, ?_⟩; conv => whnf) | fail)
    repeat (refine ⟨⟨rfl, rfl, nle rfl, nle rfl⟩, ?_⟩; conv => whnf)
    repeat (first | ((with_reducible first | apply ga | apply gb | apply gc | apply gd | apply ge | apply gf | apply gg | apply gh | apply gi | apply gj); conv => whnf) | (refine ⟨⟨rfl, rfl, nle rfl, nle rfl⟩, ?_⟩; conv => whnf) | fail)
    exact ⟨rfl, _, _, ⟨L.length, 9, by unfold wordE; rw [if_pos (by omega)], rfl, rfl⟩, SubS.mkK [] rfl ⟨⟨_, rfl, flt rfl rfl⟩, trivial⟩ ⟨.inl ⟨_, _, rfl, rfl, rfl, rdLe rfl rfl rfl rfl .same .same⟩, trivial⟩⟩
  · conv => whnf
    repeat (first | ((with_reducible first | apply ga | apply gb | apply gc | apply gd | apply ge | apply gf | apply gg | apply gh | apply gi | apply gj); conv => whnf) | (refine ⟨⟨rfl, rfl, nle rfl, nle rfl⟩, ?_⟩; conv => whnf) | fail)
    repeat (refine ⟨⟨rfl, rfl, nle rfl, nle rfl⟩, ?_⟩; conv => whnf)
    repeat (first | ((with_reducible first | apply ga | apply gb | apply gc | apply gd | apply ge | apply gf | apply gg | apply gh | apply gi | apply gj); conv => whnf) | (refine ⟨⟨rfl, rfl, nle rfl, nle rfl⟩, ?_⟩; conv => whnf) | fail)
    refine ⟨⟨by omega, by omega, rfl⟩, ?_⟩
    conv => whnf
    repeat (first | ((with_reducible first | apply ga | apply gb | apply gc | apply gd | apply ge | apply gf | apply gg | apply gh | apply gi | apply gj); conv => whnf) | (refine ⟨⟨rfl, rfl, nle rfl, nle rfl⟩, ?_⟩; conv => whnf) | fail)
    refine ⟨⟨by decide⟩, ?_⟩
    conv => whnf
    repeat (first | ((with_reducible first | apply ga | apply gb | apply gc | apply gd | apply ge | apply gf | apply gg | apply gh | apply gi | apply gj); conv => whnf) | (refine ⟨⟨rfl, rfl, nle rfl, nle rfl⟩, ?_⟩; conv => whnf) | fail)
    refine ⟨⟨by decide⟩, ?_⟩
    conv => whnf
    repeat (first | ((with_reducible first | apply ga | apply gb | apply gc | apply gd | apply ge | apply gf | apply gg | apply gh | apply gi | apply gj); conv => whnf) | (refine ⟨⟨rfl, rfl, nle rfl, nle rfl⟩, ?_⟩; conv => whnf) | fail)
    repeat (refine ⟨⟨rfl, rfl, nle rfl, nle rfl⟩, ?_⟩; conv => whnf)
    repeat (first | ((with_reducible first | apply ga | apply gb | apply gc | apply gd | apply ge | apply gf | apply gg | apply gh | apply gi | apply gj); conv => whnf) | (refine ⟨⟨rfl, rfl, nle rfl, nle rfl⟩, ?_⟩; conv => whnf) | fail)
    refine ⟨⟨by unfold inI64; omega⟩, ?_⟩
    conv => whnf
    repeat (first | ((with_reducible first | apply ga | apply gb | apply gc | apply gd | apply ge | apply gf | apply gg | apply gh | apply gi | apply gj); conv => whnf) | (refine ⟨⟨rfl, rfl, nle rfl, nle rfl⟩, ?_⟩; conv => whnf) | fail)
    refine ⟨⟨by omega, by omega, rfl⟩, ?_⟩
    conv => whnf
    repeat (first | ((with_reducible first | apply ga | apply gb | apply gc | apply gd | apply ge | apply gf | apply gg | apply gh | apply gi | apply gj); conv => whnf) | (refine ⟨⟨rfl, rfl, nle rfl, nle rfl⟩, ?_⟩; conv => whnf) | fail)
    refine ⟨⟨by decide⟩, ?_⟩
    conv => whnf
    repeat (first | ((with_reducible first | apply ga | apply gb | apply gc | apply gd | apply ge | apply gf | apply gg | apply gh | apply gi | apply gj); conv => whnf) | (refine ⟨⟨rfl, rfl, nle rfl, nle rfl⟩, ?_⟩; conv => whnf) | fail)
    repeat (refine ⟨⟨rfl, rfl, nle rfl, nle rfl⟩, ?_⟩; conv => whnf)
    repeat (first | ((with_reducible first | apply ga | apply gb | apply gc | apply gd | apply ge | apply gf | apply gg | apply gh | apply gi | apply gj); conv => whnf) | (refine ⟨⟨rfl, rfl, nle rfl, nle rfl⟩, ?_⟩; conv => whnf) | fail)
    have hs : wordS L a < 65536 := by have := btB hL a; have := btB hL (a + 1); unfold wordS; omega
    refine ⟨_, [], ⟨_, (f32 (wordS L a) hs), ⟨VLe.int (or8 (L.getD a 0) (L.getD (a+1) 0) (btB hL a) (btB hL (a+1))), trivial⟩, .inl rfl⟩, ?_⟩
    conv => whnf
    repeat (first | ((with_reducible first | apply ga | apply gb | apply gc | apply gd | apply ge | apply gf | apply gg | apply gh | apply gi | apply gj); conv => whnf) | (refine ⟨⟨rfl, rfl, nle rfl, nle rfl⟩, ?_⟩; conv => whnf) | fail)
    refine ⟨rfl, ?_⟩
    conv => whnf
    repeat (first | ((with_reducible first | apply ga | apply gb | apply gc | apply gd | apply ge | apply gf | apply gg | apply gh | apply gi | apply gj); conv => whnf) | (refine ⟨⟨rfl, rfl, nle rfl, nle rfl⟩, ?_⟩; conv => whnf) | fail)
    refine ⟨fun h2 => ?_, fun h2 => ?_⟩ <;> replace h2 := nm h2 <;> (try rw [Int.toNat_zero] at h2) <;> (try rw [Int.toNat_one] at h2)
    · conv => whnf
      repeat (first | ((with_reducible first | apply ga | apply gb | apply gc | apply gd | apply ge | apply gf | apply gg | apply gh | apply gi | apply gj); conv => whnf) | (refine ⟨⟨rfl, rfl, nle rfl, nle rfl⟩, ?_⟩; conv => whnf) | fail)
      repeat (refine ⟨⟨rfl, rfl, nle rfl, nle rfl⟩, ?_⟩; conv => whnf)
      repeat (first | ((with_reducible first | apply ga | apply gb | apply gc | apply gd | apply ge | apply gf | apply gg | apply gh | apply gi | apply gj); conv => whnf) | (refine ⟨⟨rfl, rfl, nle rfl, nle rfl⟩, ?_⟩; conv => whnf) | fail)
      exact ⟨rfl, _, _, ⟨a, 11, by unfold wordE; rw [if_neg (by omega), if_pos (by simpa using h2)], rfl, rfl⟩, SubS.mkK [] rfl ⟨⟨_, rfl, flt rfl rfl⟩, trivial⟩ ⟨.inl ⟨_, _, rfl, rfl, rfl, rdLe rfl rfl rfl rfl .same .same⟩, trivial⟩⟩
    · have hlo := lo_lt (wordS L a)
      have hw : IntKind.i64.wrap ((lo (wordS L a) : Nat) : Int) = (lo (wordS L a) : Nat) := wi64 (by omega) (by omega)
      conv => whnf
      repeat (first | ((with_reducible first | apply ga | apply gb | apply gc | apply gd | apply ge | apply gf | apply gg | apply gh | apply gi | apply gj); conv => whnf) | (refine ⟨⟨rfl, rfl, nle rfl, nle rfl⟩, ?_⟩; conv => whnf) | fail)
      refine ⟨fun h3 => ?_, fun h3 => ?_⟩ <;> replace h3 := nm h3 <;> (try rw [Int.toNat_zero] at h3) <;> (try rw [Int.toNat_one] at h3)
      · conv => whnf
        repeat (first | ((with_reducible first | apply ga | apply gb | apply gc | apply gd | apply ge | apply gf | apply gg | apply gh | apply gi | apply gj); conv => whnf) | (refine ⟨⟨rfl, rfl, nle rfl, nle rfl⟩, ?_⟩; conv => whnf) | fail)
        repeat (refine ⟨⟨rfl, rfl, nle rfl, nle rfl⟩, ?_⟩; conv => whnf)
        repeat (first | ((with_reducible first | apply ga | apply gb | apply gc | apply gd | apply ge | apply gf | apply gg | apply gh | apply gi | apply gj); conv => whnf) | (refine ⟨⟨rfl, rfl, nle rfl, nle rfl⟩, ?_⟩; conv => whnf) | fail)
        exact ⟨rfl, _, _, ⟨a, 5, by unfold wordE; rw [if_neg (by omega), if_neg (by simpa using h2), if_pos (by omega)], rfl, rfl⟩, SubS.mkK [] rfl ⟨⟨_, rfl, flt rfl rfl⟩, trivial⟩ ⟨.inl ⟨_, _, rfl, rfl, rfl, rdLe rfl rfl rfl rfl .same .same⟩, trivial⟩⟩
      · conv => whnf
        repeat (first | ((with_reducible first | apply ga | apply gb | apply gc | apply gd | apply ge | apply gf | apply gg | apply gh | apply gi | apply gj); conv => whnf) | (refine ⟨⟨rfl, rfl, nle rfl, nle rfl⟩, ?_⟩; conv => whnf) | fail)
        repeat (refine ⟨⟨rfl, rfl, nle rfl, nle rfl⟩, ?_⟩; conv => whnf)
        repeat (first | ((with_reducible first | apply ga | apply gb | apply gc | apply gd | apply ge | apply gf | apply gg | apply gh | apply gi | apply gj); conv => whnf) | (refine ⟨⟨rfl, rfl, nle rfl, nle rfl⟩, ?_⟩; conv => whnf) | fail)
        refine ⟨⟨by unfold inI64; omega⟩, ?_⟩
        conv => whnf
        repeat (first | ((with_reducible first | apply ga | apply gb | apply gc | apply gd | apply ge | apply gf | apply gg | apply gh | apply gi | apply gj); conv => whnf) | (refine ⟨⟨rfl, rfl, nle rfl, nle rfl⟩, ?_⟩; conv => whnf) | fail)
        repeat (refine ⟨⟨rfl, rfl, nle rfl, nle rfl⟩, ?_⟩; conv => whnf)
        repeat (first | ((with_reducible first | apply ga | apply gb | apply gc | apply gd | apply ge | apply gf | apply gg | apply gh | apply gi | apply gj); conv => whnf) | (refine ⟨⟨rfl, rfl, nle rfl, nle rfl⟩, ?_⟩; conv => whnf) | fail)
        refine ⟨_, _, ⟨by unfold wordE; rw [if_neg (by omega), if_neg (by simpa using h2), if_neg (by omega)], rfl, rfl⟩, SubS.mkK [] rfl ⟨⟨_, rfl, VLe.int hw⟩, trivial⟩ ⟨.inl ⟨_, _, rfl, rfl, rfl, rdLe rfl rfl rfl rfl .same .same⟩, trivial⟩⟩
/-- The beginning of an image. -/
def magE (L : List Nat) (i : Nat) : Option (Nat × Nat) :=
  if i < 4 then (if L.length ≤ i then some (L.length, 9) else if L.getD i 0 ≠ magicL.getD i 0 then some (i, 5) else magE L (i + 1)) else none
termination_by 4 - i
theorem magE_eq (L : List Nat) (i : Nat) : magE L i = if i < 4 then (if L.length ≤ i then some (L.length, 9) else if L.getD i 0 ≠ magicL.getD i 0 then some (i, 5) else magE L (i + 1)) else none := by
  rw [magE]
theorem magic_at {i : Nat} (h : i < 4) : (((#[80, 82, 76, 49] : Array UInt8).toList.getD i 0).toNat : Int) = (magicL.getD i 0 : Nat) := by
  match i, h with
  | 0, _ => rfl
  | 1, _ => rfl
  | 2, _ => rfl
  | 3, _ => rfl
set_option maxHeartbeats 1000000 in
theorem f52 (L : List Nat) (hL : BtB L) (a : Int) : HeapCallK Try.prog 52 [.ptr 100 0 2 0 0] [(100, rdO L a)]
    (fun r Hout => magE L 0 = none ∧ r = tupV [] ∧ Hout = [(100, rdO L 4)])
    (fun r Hout => ∃ p e : Nat, magE L 0 = some (p, e) ∧ r = faultV p e ∧ Hout = [(100, rdO L a)]) := by
  refine HeapCallK.run tab_ok mixed (by kernel_rfl) Try.func52 rfl rfl rfl ?_
  have hl := hL.1
  conv => whnf
  repeat (first | ((with_reducible first | apply ga | apply gb | apply gc | apply gd | apply ge | apply gf | apply gg | apply gh | apply gi | apply gj); conv => whnf) | (refine ⟨⟨rfl, rfl, nle rfl, nle rfl⟩, ?_⟩; conv => whnf) | fail)
  refine ex_loop tab_ok mixed (fun i : Nat => i ≤ 4 ∧ magE L 0 = magE L i) (fun i => mkStK 37 [(0, .ptr 100 0 2 0 0), (3, i64 i)] [(100, rdO L a)] [100]) (fun i => 4 - i) 0 ⟨by decide, rfl⟩ (SubS.mkK [] rfl ⟨⟨_, rfl, .ptr _ _ _ _ _ _ _ _ _ rfl rfl rfl rfl⟩, ⟨_, rfl, .same⟩, trivial⟩ ⟨.inl ⟨_, _, rfl, rfl, rfl, rdLe rfl rfl rfl rfl .same .same⟩, trivial⟩) ?_
  rintro i ⟨hi, hI⟩
  rw [magE_eq L i] at hI
  conv => whnf
  repeat (first | ((with_reducible first | apply ga | apply gb | apply gc | apply gd | apply ge | apply gf | apply gg | apply gh | apply gi | apply gj); conv => whnf) | (refine ⟨⟨rfl, rfl, nle rfl, nle rfl⟩, ?_⟩; conv => whnf) | fail)
  refine ⟨fun hc => ?_, fun hc => ?_⟩ <;> replace hc := nm hc <;> (try rw [Int.toNat_zero] at hc) <;> (try rw [Int.toNat_one] at hc)
  · rw [if_pos (by omega)] at hI
    conv => whnf
    repeat (first | ((with_reducible first | apply ga | apply gb | apply gc | apply gd | apply ge | apply gf | apply gg | apply gh | apply gi | apply gj); conv => whnf) | (refine ⟨⟨rfl, rfl, nle rfl, nle rfl⟩, ?_⟩; conv => whnf) | fail)
    repeat (refine ⟨⟨rfl, rfl, nle rfl, nle rfl⟩, ?_⟩; conv => whnf)
    repeat (first | ((with_reducible first | apply ga | apply gb | apply gc | apply gd | apply ge | apply gf | apply gg | apply gh | apply gi | apply gj); conv => whnf) | (refine ⟨⟨rfl, rfl, nle rfl, nle rfl⟩, ?_⟩; conv => whnf) | fail)
    refine ⟨fun h1 => ?_, fun h1 => ?_⟩ <;> replace h1 := nm h1 <;> (try rw [Int.toNat_zero] at h1) <;> (try rw [Int.toNat_one] at h1)
    · rw [if_pos (by omega)] at hI
      conv => whnf
      repeat (first | ((with_reducible first | apply ga | apply gb | apply gc | apply gd | apply ge | apply gf | apply gg | apply gh | apply gi | apply gj); conv => whnf) | (refine ⟨⟨rfl, rfl, nle rfl, nle rfl⟩, ?_⟩; conv => whnf) | fail)
      repeat (refine ⟨⟨rfl, rfl, nle rfl, nle rfl⟩, ?_⟩; conv => whnf)
      repeat (first | ((with_reducible first | apply ga | apply gb | apply gc | apply gd | apply ge | apply gf | apply gg | apply gh | apply gi | apply gj); conv => whnf) | (refine ⟨⟨rfl, rfl, nle rfl, nle rfl⟩, ?_⟩; conv => whnf) | fail)
      exact ⟨rfl, _, _, ⟨L.length, 9, hI, rfl, rfl⟩, SubS.mkK [] rfl ⟨⟨_, rfl, flt rfl rfl⟩, trivial⟩ ⟨.inl ⟨_, _, rfl, rfl, rfl, rdLe rfl rfl rfl rfl .same .same⟩, trivial⟩⟩
    · rw [if_neg (by omega)] at hI
      conv => whnf
      repeat (first | ((with_reducible first | apply ga | apply gb | apply gc | apply gd | apply ge | apply gf | apply gg | apply gh | apply gi | apply gj); conv => whnf) | (refine ⟨⟨rfl, rfl, nle rfl, nle rfl⟩, ?_⟩; conv => whnf) | fail)
      repeat (refine ⟨⟨rfl, rfl, nle rfl, nle rfl⟩, ?_⟩; conv => whnf)
      repeat (first | ((with_reducible first | apply ga | apply gb | apply gc | apply gd | apply ge | apply gf | apply gg | apply gh | apply gi | apply gj); conv => whnf) | (refine ⟨⟨rfl, rfl, nle rfl, nle rfl⟩, ?_⟩; conv => whnf) | fail)
      refine ⟨⟨by omega, by omega, rfl⟩, ?_⟩
      conv => whnf
      repeat (first | ((with_reducible first | apply ga | apply gb | apply gc | apply gd | apply ge | apply gf | apply gg | apply gh | apply gi | apply gj); conv => whnf) | (refine ⟨⟨rfl, rfl, nle rfl, nle rfl⟩, ?_⟩; conv => whnf) | fail)
      refine ⟨⟨by decide⟩, ?_⟩
      conv => whnf
      repeat (first | ((with_reducible first | apply ga | apply gb | apply gc | apply gd | apply ge | apply gf | apply gg | apply gh | apply gi | apply gj); conv => whnf) | (refine ⟨⟨rfl, rfl, nle rfl, nle rfl⟩, ?_⟩; conv => whnf) | fail)
      refine ⟨⟨by omega, by show (i : Int) < 4; omega⟩, ?_⟩
      conv => whnf
      repeat (first | ((with_reducible first | apply ga | apply gb | apply gc | apply gd | apply ge | apply gf | apply gg | apply gh | apply gi | apply gj); conv => whnf) | (refine ⟨⟨rfl, rfl, nle rfl, nle rfl⟩, ?_⟩; conv => whnf) | fail)
      have hk := magic_at (i := i) (by omega)
      refine ⟨rfl, ?_⟩
      conv => whnf
      repeat (first | ((with_reducible first | apply ga | apply gb | apply gc | apply gd | apply ge | apply gf | apply gg | apply gh | apply gi | apply gj); conv => whnf) | (refine ⟨⟨rfl, rfl, nle rfl, nle rfl⟩, ?_⟩; conv => whnf) | fail)
      refine ⟨fun h2 => ?_, fun h2 => ?_⟩ <;> replace h2 := nm h2 <;> (try rw [Int.toNat_zero] at h2) <;> (try rw [Int.toNat_one] at h2)
      · replace h2 : ¬ ((L.getD i 0 : Nat) : Int) = (((#[80, 82, 76, 49] : Array UInt8).toList.getD i 0).toNat : Int) := h2
        rw [hk] at h2
        rw [if_pos (by omega)] at hI
        conv => whnf
        repeat (first | ((with_reducible first | apply ga | apply gb | apply gc | apply gd | apply ge | apply gf | apply gg | apply gh | apply gi | apply gj); conv => whnf) | (refine ⟨⟨rfl, rfl, nle rfl, nle rfl⟩, ?_⟩; conv => whnf) | fail)
        exact ⟨rfl, _, _, ⟨i, 5, hI, rfl, rfl⟩, SubS.mkK [] rfl ⟨⟨_, rfl, flt rfl rfl⟩, trivial⟩ ⟨.inl ⟨_, _, rfl, rfl, rfl, rdLe rfl rfl rfl rfl .same .same⟩, trivial⟩⟩
      · replace h2 : ((L.getD i 0 : Nat) : Int) = (((#[80, 82, 76, 49] : Array UInt8).toList.getD i 0).toNat : Int) := h2
        rw [hk] at h2
        rw [if_neg (by omega)] at hI
        conv => whnf
        repeat (first | ((with_reducible first | apply ga | apply gb | apply gc | apply gd | apply ge | apply gf | apply gg | apply gh | apply gi | apply gj); conv => whnf) | (refine ⟨⟨rfl, rfl, nle rfl, nle rfl⟩, ?_⟩; conv => whnf) | fail)
        refine ⟨⟨by unfold inI64; omega⟩, ?_⟩
        conv => whnf
        repeat (first | ((with_reducible first | apply ga | apply gb | apply gc | apply gd | apply ge | apply gf | apply gg | apply gh | apply gi | apply gj); conv => whnf) | (refine ⟨⟨rfl, rfl, nle rfl, nle rfl⟩, ?_⟩; conv => whnf) | fail)
        exact ⟨i + 1, ⟨by omega, hI⟩, SubS.mkK [] rfl ⟨⟨_, rfl, .ptr _ _ _ _ _ _ _ _ _ rfl rfl rfl rfl⟩, ⟨_, rfl, .same⟩, trivial⟩ ⟨.inl ⟨_, _, rfl, rfl, rfl, rdLe rfl rfl rfl rfl .same .same⟩, trivial⟩, by omega⟩
  · rw [if_neg (by omega)] at hI
    conv => whnf
    repeat (first | ((with_reducible first | apply ga | apply gb | apply gc | apply gd | apply ge | apply gf | apply gg | apply gh | apply gi | apply gj); conv => whnf) | (refine ⟨⟨rfl, rfl, nle rfl, nle rfl⟩, ?_⟩; conv => whnf) | fail)
    repeat (refine ⟨⟨rfl, rfl, nle rfl, nle rfl⟩, ?_⟩; conv => whnf)
    repeat (first | ((with_reducible first | apply ga | apply gb | apply gc | apply gd | apply ge | apply gf | apply gg | apply gh | apply gi | apply gj); conv => whnf) | (refine ⟨⟨rfl, rfl, nle rfl, nle rfl⟩, ?_⟩; conv => whnf) | fail)
    exact ⟨_, _, ⟨hI, rfl, rfl⟩, SubS.mkK [] rfl ⟨⟨_, rfl, .tup _ _ _ fun i hi => absurd hi (Nat.not_lt_zero i)⟩, trivial⟩ ⟨.inl ⟨_, _, rfl, rfl, rfl, rdLe rfl rfl rfl rfl .same .same⟩, trivial⟩⟩
end Go.Proofs.Ytioccpodnkllfaa

namespace Go.Proofs.Ytioccpodnkllfaa
open Go Go.AM
attribute [local irreducible] AWP CallK PureCall SubS HeapCall HeapCallP HeapCallK
abbrev RE (α : Type) := Except (Nat × Nat) α
def wordsA (L : List Nat) : Nat → Nat → List Nat → RE (List Nat)
  | _, 0, acc => .ok acc
  | a, n + 1, acc => match wordE L a 32767 with
    | some e => .error e
    | none => wordsA L (a + 2) n (acc ++ [lo (wordS L a)])
def bankA (L : List Nat) (a : Nat) (last : Int) : RE (BankR × Nat) :=
  match wordE L a 35 with
  | some e => .error e
  | none => if (lo (wordS L a) : Int) ≤ last then .error (a, 5) else
    match wordE L (a + 2) 1024 with
    | some e => .error e
    | none => match wordsA L (a + 4) (lo (wordS L (a + 2))) [] with
      | .error e => .error e
      | .ok ws => if sealedB ⟨lo (wordS L a), ws⟩ = false then .error (a, 10) else .ok (⟨lo (wordS L a), ws⟩, a + 4 + 2 * lo (wordS L (a + 2)))
theorem wordE_none {L : List Nat} {a m : Nat} (h : wordE L a m = none) : a + 2 ≤ L.length ∧ lo (wordS L a) ≤ m := by
  unfold wordE at h
  by_cases h1 : L.length < a + 2
  · rw [if_pos h1] at h; cases h
  · rw [if_neg h1] at h
    by_cases h2 : oddF (wordS L a) 16 = false
    · rw [if_pos h2] at h; cases h
    · rw [if_neg h2] at h
      by_cases h3 : m < lo (wordS L a)
      · rw [if_pos h3] at h; cases h
      · omega
def bkO (n : Int) (v : AV) : AO := ⟨35, 0, 2, 1, fun _ j => match j with | 0 => i64 n | _ => v⟩
theorem bkLe {H : Heap} {B : List Nat} {U : List (Nat × Nat)} {o : AO} {n : Int} {v : AV} (e1 : o.E = 35) (e2 : o.gen = 0) (e3 : o.sz = 2) (e4 : o.n = 1) (h0 : VLe H B U (o.f 0 0) (i64 n)) (h1 : VLe H B U (o.f 0 1) v) : OLe H B U o (bkO n v) :=
  ⟨e1.symm, e2.symm, e3.symm, Nat.le_of_eq e4.symm, fun i j hi hj => by
    have hi0 : i = 0 := Nat.lt_one_iff.mp hi
    subst hi0
    rw [e3] at hj
    match j, hj with
    | 0, _ => exact h0
    | 1, _ => exact h1⟩
def ords54 : List (List Nat) := [[0, 1, 2, 3, 4, 5, 6, 7, 8], [0, 2, 1, 3, 4, 5, 6, 7, 8], [0, 2, 3, 1, 4, 5, 6, 7, 8], [0, 2, 3, 4, 1, 5, 6, 7, 8], [0, 2, 3, 4, 5, 1, 6, 7, 8], [2, 0, 1, 3, 4, 5, 6, 7, 8], [2, 0, 3, 1, 4, 5, 6, 7, 8], [2, 0, 3, 4, 1, 5, 6, 7, 8], [2, 0, 3, 4, 5, 1, 6, 7, 8], [2, 3, 0, 1, 4, 5, 6, 7, 8], [2, 3, 0, 4, 1, 5, 6, 7, 8], [2, 3, 0, 4, 5, 1, 6, 7, 8], [2, 3, 4, 0, 1, 5, 6, 7, 8], [2, 3, 4, 0, 5, 1, 6, 7, 8], [2, 3, 4, 5, 0, 1, 6, 7, 8]]
set_option maxHeartbeats 4000000 in
theorem f54 (L : List Nat) (hL : BtB L) (a : Nat) (ha : a ≤ L.length) (last : Int) : HeapCallK Try.prog 54 [.ptr 100 0 2 0 0, i64 last] [(100, rdO L a)]
    (fun r Hout => ∃ b a', bankA L a last = .ok (b, a') ∧ r = b.av ∧ Hout = [(100, rdO L (a' : Nat))])
    (fun r Hout => ∃ p e a' : Nat, bankA L a last = .error (p, e) ∧ r = faultV p e ∧ Hout = [(100, rdO L a')]) := by
  have hl := hL.1
  refine HeapCallK.run tab_ok mixed (by kernel_rfl) Try.func54 rfl rfl rfl ?_
  conv => whnf
  repeat (first | ((with_reducible first | apply ga | apply gb | apply gc | apply gd | apply ge | apply gf | apply gg | apply gh | apply gi | apply gj); conv => whnf) | (refine ⟨⟨rfl, rfl, nle rfl, nle rfl⟩, ?_⟩; conv => whnf) | fail)
  repeat (refine ⟨⟨rfl, rfl, nle rfl, nle rfl⟩, ?_⟩; conv => whnf)
  repeat (first | ((with_reducible first | apply ga | apply gb | apply gc | apply gd | apply ge | apply gf | apply gg | apply gh | apply gi | apply gj); conv => whnf) | (refine ⟨⟨rfl, rfl, nle rfl, nle rfl⟩, ?_⟩; conv => whnf) | fail)
  refine CallK.heapK (f53 L hL a 35 ha (by decide)) [] [(100, 100)] rfl rfl rfl ⟨.ptr _ _ _ _ _ _ _ _ _ rfl rfl rfl rfl, .same, trivial⟩ ⟨.inl ⟨_, _, rfl, rfl, rfl, rdLe rfl rfl rfl rfl .same .same⟩, trivial⟩ 2000 rfl ?_ ?_
  · rintro _ _ ⟨hE, rfl, rfl⟩
    have hE1 := wordE_none hE
    conv => whnf
    repeat (first | ((with_reducible first | apply ga | apply gb | apply gc | apply gd | apply ge | apply gf | apply gg | apply gh | apply gi | apply gj); conv => whnf) | (refine ⟨⟨rfl, rfl, nle rfl, nle rfl⟩, ?_⟩; conv => whnf) | fail)
    repeat (refine ⟨⟨rfl, rfl, nle rfl, nle rfl⟩, ?_⟩; conv => whnf)
    repeat (first | ((with_reducible first | apply ga | apply gb | apply gc | apply gd | apply ge | apply gf | apply gg | apply gh | apply gi | apply gj); conv => whnf) | (refine ⟨⟨rfl, rfl, nle rfl, nle rfl⟩, ?_⟩; conv => whnf) | fail)
    refine ⟨fun h1 => ?_, fun h1 => ?_⟩ <;> replace h1 := nm h1 <;> (try rw [Int.toNat_zero] at h1) <;> (try rw [Int.toNat_one] at h1)
    · conv => whnf
      repeat (first | ((with_reducible first | apply ga | apply gb | apply gc | apply gd | apply ge | apply gf | apply gg | apply gh | apply gi | apply gj); conv => whnf) | (refine ⟨⟨rfl, rfl, nle rfl, nle rfl⟩, ?_⟩; conv => whnf) | fail)
      exact ⟨rfl, _, _, ⟨a, 5, a + 2, by unfold bankA; rw [hE]; dsimp only; rw [if_pos h1], rfl, rfl⟩, SubS.mkK [] rfl ⟨⟨_, rfl, flt rfl rfl⟩, trivial⟩ ⟨.inl ⟨_, _, rfl, rfl, rfl, rdLe rfl rfl rfl rfl .same .same⟩, trivial⟩⟩
    · conv => whnf
      repeat (first | ((with_reducible first | apply ga | apply gb | apply gc | apply gd | apply ge | apply gf | apply gg | apply gh | apply gi | apply gj); conv => whnf) | (refine ⟨⟨rfl, rfl, nle rfl, nle rfl⟩, ?_⟩; conv => whnf) | fail)
      refine CallK.heapK (f53 L hL (a + 2) 1024 (by omega) (by decide)) [] [(100, 100)] rfl rfl rfl ⟨.ptr _ _ _ _ _ _ _ _ _ rfl rfl rfl rfl, .same, trivial⟩ ⟨.inl ⟨_, _, rfl, rfl, rfl, rdLe rfl rfl rfl rfl .same .same⟩, trivial⟩ 3000 rfl ?_ ?_
      · rintro _ _ ⟨hF, rfl, rfl⟩
        have hF1 := wordE_none hF
        conv => whnf
        repeat (first | ((with_reducible first | apply ga | apply gb | apply gc | apply gd | apply ge | apply gf | apply gg | apply gh | apply gi | apply gj); conv => whnf) | (refine ⟨⟨rfl, rfl, nle rfl, nle rfl⟩, ?_⟩; conv => whnf) | fail)
        refine awp_loopI (fun x : Nat × Nat × List Nat => (x.1 ≤ lo (wordS L (a + 2)) ∧ a + 4 + 2 * x.1 ≤ L.length ∧ x.2.2.length = x.1 ∧ ∀ y ∈ x.2.2, y < 65536) ∧ wordsA L (a + 4) (lo (wordS L (a + 2))) [] = wordsA L (a + 4 + 2 * x.1) (lo (wordS L (a + 2)) - x.1) x.2.2)
          (fun x => mkStK 41 [(0, .ptr 100 0 2 0 0), (4, .ptr 4 0 2 0 0), (5, i64 a), (6, .ptr 6 0 2 0 0), (22, i64 (lo (wordS L (a + 2)) : Nat)), (23, i64 x.1)] [(100, rdO L (a + 4 + 2 * x.1 : Nat)), (4, bkO 0 .nilS), (6, bkO (lo (wordS L a) : Nat) (.row 1000 x.2.1 1 0 x.2.2.length)), (1000, rowA 39 1 wcell 0 x.2.1 x.2.2)] [100])
          (fun x => lo (wordS L (a + 2)) - x.1) (0, 0, []) ⟨⟨by omega, by dsimp only; omega, rfl, fun y hy => by cases hy⟩, rfl⟩
          (SubS.mkNK [] [(100, 100), (4, 4), (6, 6)] rfl rfl rfl ⟨⟨_, rfl, .ptr _ _ _ _ _ _ _ _ _ rfl rfl rfl rfl⟩, ⟨_, rfl, .ptr _ _ _ _ _ _ _ _ _ rfl rfl rfl rfl⟩, ⟨_, rfl, .same⟩, ⟨_, rfl, .ptr _ _ _ _ _ _ _ _ _ rfl rfl rfl rfl⟩, ⟨_, rfl, .same⟩, ⟨_, rfl, .same⟩, trivial⟩
            ⟨.inl ⟨_, _, rfl, rfl, rfl, rdLe rfl rfl rfl rfl .same .same⟩, .inl ⟨_, _, rfl, rfl, rfl, bkLe rfl rfl rfl rfl .same .nils⟩, .inl ⟨_, _, rfl, rfl, rfl, bkLe rfl rfl rfl rfl .same (.void _ _ _)⟩, .inr (.inl ⟨rfl, rfl⟩), trivial⟩) ?_
        rintro ⟨k, g, acc⟩ ⟨⟨hk, hkl, hal, hab⟩, hI⟩
        dsimp only at hk hkl hal hab hI ⊢
        refine awp_piece tab_ok mixed ?_
        conv => whnf
        repeat (first | ((with_reducible first | apply ga | apply gb | apply gc | apply gd | apply ge | apply gf | apply gg | apply gh | apply gi | apply gj); conv => whnf) | (refine ⟨⟨rfl, rfl, nle rfl, nle rfl⟩, ?_⟩; conv => whnf) | fail)
        refine awp_piece tab_ok mixed ?_
        conv => whnf
        repeat (first | ((with_reducible first | apply ga | apply gb | apply gc | apply gd | apply ge | apply gf | apply gg | apply gh | apply gi | apply gj); conv => whnf) | (refine ⟨⟨rfl, rfl, nle rfl, nle rfl⟩, ?_⟩; conv => whnf) | fail)
        refine ⟨fun hc => ?_, fun hc => ?_⟩ <;> replace hc := nm hc <;> (try rw [Int.toNat_zero] at hc) <;> (try rw [Int.toNat_one] at hc)
        · have hlt : k < lo (wordS L (a + 2)) := by omega
          rw [show lo (wordS L (a + 2)) - k = (lo (wordS L (a + 2)) - (k + 1)) + 1 by omega, wordsA] at hI
          conv => whnf
          repeat (first | ((with_reducible first | apply ga | apply gb | apply gc | apply gd | apply ge | apply gf | apply gg | apply gh | apply gi | apply gj); conv => whnf) | (refine ⟨⟨rfl, rfl, nle rfl, nle rfl⟩, ?_⟩; conv => whnf) | fail)
          refine awp_seq (awp_block (awp_orders tab_ok mixed (L := ords54) (by kernel_rfl) ?_))
          refine ⟨?_, ?_, ?_, ?_, ?_, ?_, ?_, ?_, ?_, ?_, ?_, ?_, ?_, ?_, ?_⟩
          all_goals ((conv => whnf); repeat (first | ((with_reducible first | apply ga | apply gb | apply gc | apply gd | apply ge | apply gf | apply gg | apply gh | apply gi | apply gj); conv => whnf) | (refine ⟨⟨rfl, rfl, nle rfl, nle rfl⟩, ?_⟩; conv => whnf) | fail))
          all_goals refine CallK.heapK (f53 L hL (a + 4 + 2 * k) 32767 (by omega) (by decide)) [] [(100, 100)] rfl rfl rfl ⟨.ptr _ _ _ _ _ _ _ _ _ rfl rfl rfl rfl, .same, trivial⟩ ⟨.inl ⟨_, _, rfl, rfl, rfl, rdLe rfl rfl rfl rfl .same .same⟩, trivial⟩ 4000 rfl ?_ ?_
          all_goals first
            | (rintro _ _ ⟨p, e, hG, rfl, rfl⟩
               rw [hG] at hI
               conv => whnf
               exact ⟨rfl, _, _, ⟨p, e, a + 4 + 2 * k, by unfold bankA; rw [hE]; dsimp only; rw [if_neg (by omega), hF]; dsimp only; rw [hI], rfl, rfl⟩, SubS.mkK [] rfl ⟨⟨_, rfl, .same⟩, trivial⟩ ⟨.inl ⟨_, _, rfl, rfl, rfl, rdLe rfl rfl rfl rfl .same .same⟩, trivial⟩⟩)
            | (rintro _ _ ⟨hG, rfl, rfl⟩
               have hG1 := wordE_none hG
               rw [hG] at hI)
          all_goals ((conv => whnf); repeat (first | ((with_reducible first | apply ga | apply gb | apply gc | apply gd | apply ge | apply gf | apply gg | apply gh | apply gi | apply gj); conv => whnf) | (refine ⟨⟨rfl, rfl, nle rfl, nle rfl⟩, ?_⟩; conv => whnf) | fail))
          all_goals (refine ⟨⟨⟨rfl, rfl, rfl, nle rfl⟩, rfl, rfl, rfl, rfl, rfl, rfl, by show (acc.length + 1) * 2 ≤ _; omega⟩, ?_⟩)
          all_goals ((conv => whnf); repeat (first | ((with_reducible first | apply ga | apply gb | apply gc | apply gd | apply ge | apply gf | apply gg | apply gh | apply gi | apply gj); conv => whnf) | (refine ⟨⟨rfl, rfl, nle rfl, nle rfl⟩, ?_⟩; conv => whnf) | fail))
          all_goals refine awp_last tab_ok mixed ?_
          all_goals ((conv => whnf); repeat (first | ((with_reducible first | apply ga | apply gb | apply gc | apply gd | apply ge | apply gf | apply gg | apply gh | apply gi | apply gj); conv => whnf) | (refine ⟨⟨rfl, rfl, nle rfl, nle rfl⟩, ?_⟩; conv => whnf) | fail))
          all_goals (refine ⟨⟨by unfold inI64; omega⟩, ?_⟩)
          all_goals ((conv => whnf); repeat (first | ((with_reducible first | apply ga | apply gb | apply gc | apply gd | apply ge | apply gf | apply gg | apply gh | apply gi | apply gj); conv => whnf) | (refine ⟨⟨rfl, rfl, nle rfl, nle rfl⟩, ?_⟩; conv => whnf) | fail))
          all_goals
            refine ⟨(k + 1, g + 1, acc ++ [lo (wordS L (a + 4 + 2 * k))]), ⟨⟨hlt, by dsimp only; omega, by simp [hal], fun y hy => ?_⟩, ?_⟩, SubS.mkNK [] [(100, 100), (4, 4), (6, 6), (1000, 1000)] rfl rfl rfl
              ⟨⟨_, rfl, .ptr _ _ _ _ _ _ _ _ _ rfl rfl rfl rfl⟩, ⟨_, rfl, .ptr _ _ _ _ _ _ _ _ _ rfl rfl rfl rfl⟩, ⟨_, rfl, .same⟩, ⟨_, rfl, .ptr _ _ _ _ _ _ _ _ _ rfl rfl rfl rfl⟩, ⟨_, rfl, .same⟩, ⟨_, rfl, .same⟩, trivial⟩
              ⟨.inl ⟨_, _, rfl, rfl, rfl, rdLe rfl rfl rfl rfl .same (VLe.int ?_)⟩, .inl ⟨_, _, rfl, rfl, rfl, bkLe rfl rfl rfl rfl .same .nils⟩, .inl ⟨_, _, rfl, rfl, rfl, bkLe rfl rfl rfl rfl .same (.row _ _ _ _ _ _ _ _ _ rfl rfl rfl (by simp))⟩, .inl ⟨_, _, rfl, rfl, rfl, OLe.snocA rfl rfl rfl rfl rfl fun j hj => ?_⟩, trivial⟩, ?_⟩
          all_goals first
            | (rcases List.mem_append.mp hy with hy | hy
               · exact hab y hy
               · rw [List.mem_singleton] at hy; subst hy; omega)
            | exact hI
            | (dsimp only; omega)
            | (have hj0 : j = 0 := Nat.lt_one_iff.mp hj
               subst hj0
               exact VLe.int (wn16 (by omega) (by omega)))
        · rw [show lo (wordS L (a + 2)) - k = 0 by omega, wordsA] at hI
          obtain rfl : k = lo (wordS L (a + 2)) := by omega
          conv => whnf
          repeat (first | ((with_reducible first | apply ga | apply gb | apply gc | apply gd | apply ge | apply gf | apply gg | apply gh | apply gi | apply gj); conv => whnf) | (refine ⟨⟨rfl, rfl, nle rfl, nle rfl⟩, ?_⟩; conv => whnf) | fail)
          have hWB : BankB ⟨(lo (wordS L a) : Nat), acc⟩ := ⟨by unfold inI64; dsimp only; omega, by dsimp only; omega, hab⟩
          refine CallK.flat [1000] (f23 ⟨(lo (wordS L a) : Nat), acc⟩ hWB) ⟨agg2 .same (VLe.frzA rfl rfl rfl), trivial⟩ rfl ?_
          conv => whnf
          repeat (first | ((with_reducible first | apply ga | apply gb | apply gc | apply gd | apply ge | apply gf | apply gg | apply gh | apply gi | apply gj); conv => whnf) | (refine ⟨⟨rfl, rfl, nle rfl, nle rfl⟩, ?_⟩; conv => whnf) | fail)
          refine ⟨fun hs => ?_, fun hs => ?_⟩ <;> replace hs := nm hs <;> (try rw [Int.toNat_zero] at hs) <;> (try rw [Int.toNat_one] at hs)
          · conv => whnf
            repeat (first | ((with_reducible first | apply ga | apply gb | apply gc | apply gd | apply ge | apply gf | apply gg | apply gh | apply gi | apply gj); conv => whnf) | (refine ⟨⟨rfl, rfl, nle rfl, nle rfl⟩, ?_⟩; conv => whnf) | fail)
            exact ⟨rfl, _, _, ⟨a, 10, a + 4 + 2 * lo (wordS L (a + 2)), by unfold bankA; rw [hE]; dsimp only; rw [if_neg (by omega), hF]; dsimp only; rw [hI]; dsimp only; rw [if_pos hs], rfl, rfl⟩, SubS.mkK [] rfl ⟨⟨_, rfl, flt rfl rfl⟩, trivial⟩ ⟨.inl ⟨_, _, rfl, rfl, rfl, rdLe rfl rfl rfl rfl .same .same⟩, trivial⟩⟩
          · conv => whnf
            repeat (first | ((with_reducible first | apply ga | apply gb | apply gc | apply gd | apply ge | apply gf | apply gg | apply gh | apply gi | apply gj); conv => whnf) | (refine ⟨⟨rfl, rfl, nle rfl, nle rfl⟩, ?_⟩; conv => whnf) | fail)
            repeat (refine ⟨⟨rfl, rfl, nle rfl, nle rfl⟩, ?_⟩; conv => whnf)
            repeat (first | ((with_reducible first | apply ga | apply gb | apply gc | apply gd | apply ge | apply gf | apply gg | apply gh | apply gi | apply gj); conv => whnf) | (refine ⟨⟨rfl, rfl, nle rfl, nle rfl⟩, ?_⟩; conv => whnf) | fail)
            exact ⟨_, _, ⟨⟨(lo (wordS L a) : Nat), acc⟩, a + 4 + 2 * lo (wordS L (a + 2)), by unfold bankA; rw [hE]; dsimp only; rw [if_neg (by omega), hF]; dsimp only; rw [hI]; dsimp only; rw [if_neg (by rw [hs]; decide)], rfl, rfl⟩,
              SubS.mkK [1000] rfl ⟨⟨_, rfl, agg2 .same (VLe.frzA rfl rfl rfl)⟩, trivial⟩ ⟨.inl ⟨_, _, rfl, rfl, rfl, rdLe rfl rfl rfl rfl .same .same⟩, trivial⟩⟩
      · rintro _ _ ⟨p, e, hF, rfl, rfl⟩
        exact ⟨rfl, _, _, ⟨p, e, a + 2, by unfold bankA; rw [hE]; dsimp only; rw [if_neg (by omega), hF], rfl, rfl⟩, SubS.mkK [] rfl ⟨⟨_, rfl, .same⟩, trivial⟩ ⟨.inl ⟨_, _, rfl, rfl, rfl, rdLe rfl rfl rfl rfl .same .same⟩, trivial⟩⟩
  · rintro _ _ ⟨p, e, hE, rfl, rfl⟩
    exact ⟨rfl, _, _, ⟨p, e, a, by unfold bankA; rw [hE], rfl, rfl⟩, SubS.mkK [] rfl ⟨⟨_, rfl, .same⟩, trivial⟩ ⟨.inl ⟨_, _, rfl, rfl, rfl, rdLe rfl rfl rfl rfl .same .same⟩, trivial⟩⟩
end Go.Proofs.Ytioccpodnkllfaa

namespace Go.Proofs.Ytioccpodnkllfaa
open Go Go.AM
attribute [local irreducible] AWP CallK PureCall SubS HeapCall HeapCallP HeapCallK
def banksA (L : List Nat) : Nat → Nat → Int → List BankR → RE (List BankR × Nat)
  | a, 0, _, acc => .ok (acc, a)
  | a, n + 1, last, acc => match bankA L a last with
    | .error e => .error e
    | .ok (b, a') => banksA L a' n b.num (acc ++ [b])
def unpackA (L : List Nat) : RE (List BankR) :=
  match magE L 0 with
  | some e => .error e
  | none => match wordE L 4 36 with
    | some e => .error e
    | none => match banksA L 6 (lo (wordS L 4)) (-1) [] with
      | .error e => .error e
      | .ok (bs, a) => if a < L.length then .error (a, 5) else .ok bs
def unpackT (x : RE (List BankR)) : AV :=
  match x with
  | .error (p, e) => tupV [.pv (banksP []), i64 p, i64 e]
  | .ok bs => tupV [.pv (banksP bs), i64 0, i64 0]
def clO (E : Nat) (v : AV) : AO := ⟨E, 0, 1, 1, fun _ _ => v⟩
theorem clLe {H : Heap} {B : List Nat} {U : List (Nat × Nat)} {o : AO} {E : Nat} {v : AV} (e1 : o.E = E) (e2 : o.gen = 0) (e3 : o.sz = 1) (e4 : o.n = 1) (h0 : VLe H B U (o.f 0 0) v) : OLe H B U o (clO E v) :=
  ⟨e1.symm, e2.symm, e3.symm, Nat.le_of_eq e4.symm, fun i j hi hj => by
    have hi0 : i = 0 := Nat.lt_one_iff.mp hi
    subst hi0
    rw [e3] at hj
    have hj0 : j = 0 := Nat.lt_one_iff.mp hj
    subst hj0
    exact h0⟩
theorem SubS.mkD {st : ASt} {n : Nat} {s : List (Nat × AV)} {h : List (Nat × AO)} {v0 v : AV} (B : List Nat) (U : List (Nat × Nat)) (hi : injR U = true) (hk : keysIn U (keysL h) = true) (hn : n = st.nt) (hs : AllS st B U s) (hh : AllH st B U h) (hx : st.x = XD v0) (hv : VLe st.heap B U v0 v) : SubS st (mkStX n s h (XD v)) :=
  SubS.mkRX B U (injR_out hi) (fun _ _ h => keysIn_out hk h) hn hs hh ⟨by rw [hx]; rfl, by rw [hx]; rfl, by rw [hx]; rfl, by rw [hx]; rfl, by rw [hx]; rfl, by rw [hx]; rfl, rfl, fun t v' ht => by
    replace ht : (bif Nat.beq t 0 then some v else none) = some v' := ht
    cases hb : Nat.beq t 0 with
    | true =>
      rw [hb] at ht
      obtain rfl := Option.some.inj ht
      refine ⟨v0, ?_, hv⟩
      rw [hx]
      show (bif Nat.beq t 0 then some v0 else none) = _
      rw [hb]; rfl
    | false => rw [hb] at ht; cases ht⟩
def funD : AV := .func (.func 51) 0 (getL []) 3 (getL [.ptr 2 0 1 0 0, .ptr 3 0 1 0 0, .ptr 4 0 1 0 0])
def funE : AV := .func (.func 51) 0 (getL []) 3 (getL [.ptr 1002 0 1 0 0, .ptr 1003 0 1 0 0, .ptr 1004 0 1 0 0])
noncomputable def cg51 : Code := tailN 1 (Try.f51.body.getD .skip)
/-- What the call leaves, as the closure sees it. -/
def stE (v : AV) (x y : Int) (o : AO) : ASt := mkStX 42 [(2, .ptr 1002 0 1 0 0), (3, .ptr 1003 0 1 0 0), (4, .ptr 1004 0 1 0 0)] [(1002, clO 27 v), (1003, clO 3 (i64 x)), (1004, clO 28 (i64 y)), (1000, o)] (XD funE)
theorem funLe {H : Heap} {B : List Nat} {U : List (Nat × Nat)} {f g h : Nat → AV} {n : Nat} (hn : n = 3) (h0 : ∀ i, i < 3 → VLe H B U (g i) (h i)) : VLe H B U (.func (.func 51) 0 f n g) (.func (.func 51) 0 f 3 h) := by
  subst hn
  exact .func _ _ _ _ _ _ _ (fun i hi => absurd hi (Nat.not_lt_zero i)) h0
set_option maxHeartbeats 4000000 in
theorem recP (v : AV) (x y : Int) (o : AO) (p e : Int) : recF Try.prog tab Try.f27.results.toList cg51 Try.f51.ntmps 3 6 3 51 (fun r Hout => r = tupV [.pv (banksP []), i64 p, i64 e] ∧ Hout = []) (faultV p e) (stE v x y o) := by
  refine ⟨rfl, _, _, rfl, ?_⟩
  conv => whnf
  repeat (first | ((with_reducible first | apply ga | apply gb | apply gc | apply gd | apply ge | apply gf | apply gg | apply gh | apply gi | apply gj); conv => whnf) | (refine ⟨⟨rfl, rfl, nle rfl, nle rfl⟩, ?_⟩; conv => whnf) | fail)
  repeat (refine ⟨⟨rfl, rfl, nle rfl, nle rfl⟩, ?_⟩; conv => whnf)
  repeat (first | ((with_reducible first | apply ga | apply gb | apply gc | apply gd | apply ge | apply gf | apply gg | apply gh | apply gi | apply gj); conv => whnf) | (refine ⟨⟨rfl, rfl, nle rfl, nle rfl⟩, ?_⟩; conv => whnf) | fail)
  refine ⟨rfl, ?_⟩
  conv => whnf
  repeat (first | ((with_reducible first | apply ga | apply gb | apply gc | apply gd | apply ge | apply gf | apply gg | apply gh | apply gi | apply gj); conv => whnf) | (refine ⟨⟨rfl, rfl, nle rfl, nle rfl⟩, ?_⟩; conv => whnf) | fail)
  refine ⟨rfl, ?_⟩
  conv => whnf
  repeat (first | ((with_reducible first | apply ga | apply gb | apply gc | apply gd | apply ge | apply gf | apply gg | apply gh | apply gi | apply gj); conv => whnf) | (refine ⟨⟨rfl, rfl, nle rfl, nle rfl⟩, ?_⟩; conv => whnf) | fail)
  repeat (refine ⟨⟨rfl, rfl, nle rfl, nle rfl⟩, ?_⟩; conv => whnf)
  repeat (first | ((with_reducible first | apply ga | apply gb | apply gc | apply gd | apply ge | apply gf | apply gg | apply gh | apply gi | apply gj); conv => whnf) | (refine ⟨⟨rfl, rfl, nle rfl, nle rfl⟩, ?_⟩; conv => whnf) | fail)
  refine ⟨_, _, ⟨rfl, rfl⟩, SubS.mk [] rfl ⟨⟨_, rfl, .tup _ _ _ fun i hi => ?_⟩, trivial⟩ trivial⟩
  match i, hi with
  | 0, _ => exact VLe.nilA
  | 1, _ => exact .same
  | 2, _ => exact .same
theorem recN (v : AV) (x y : Int) (o : AO) {R : AV} (v' : PV) (hv : ∃ B, VLe (lookL [(1002, clO 27 v), (1003, clO 3 (i64 x)), (1004, clO 28 (i64 y)), (1000, o)]) B [] v (.pv v')) (hR : R = tupV [.pv v', i64 x, i64 y]) : recF Try.prog tab Try.f27.results.toList cg51 Try.f51.ntmps 3 6 3 51 (fun r Hout => r = R ∧ Hout = []) (.pv .nilI) (stE v x y o) := by
  refine ⟨rfl, _, _, rfl, ?_⟩
  conv => whnf
  repeat (first | ((with_reducible first | apply ga | apply gb | apply gc | apply gd | apply ge | apply gf | apply gg | apply gh | apply gi | apply gj); conv => whnf) | (refine ⟨⟨rfl, rfl, nle rfl, nle rfl⟩, ?_⟩; conv => whnf) | fail)
  refine ⟨rfl, ?_⟩
  conv => whnf
  repeat (first | ((with_reducible first | apply ga | apply gb | apply gc | apply gd | apply ge | apply gf | apply gg | apply gh | apply gi | apply gj); conv => whnf) | (refine ⟨⟨rfl, rfl, nle rfl, nle rfl⟩, ?_⟩; conv => whnf) | fail)
  repeat (refine ⟨⟨rfl, rfl, nle rfl, nle rfl⟩, ?_⟩; conv => whnf)
  repeat (first | ((with_reducible first | apply ga | apply gb | apply gc | apply gd | apply ge | apply gf | apply gg | apply gh | apply gi | apply gj); conv => whnf) | (refine ⟨⟨rfl, rfl, nle rfl, nle rfl⟩, ?_⟩; conv => whnf) | fail)
  obtain ⟨B, hv⟩ := hv
  subst hR
  refine ⟨_, _, ⟨rfl, rfl⟩, SubS.mk B rfl ⟨⟨_, rfl, .tup _ _ _ fun i hi => ?_⟩, trivial⟩ trivial⟩
  match i, hi with
  | 0, _ => exact hv
  | 1, _ => exact .same
  | 2, _ => exact .same
theorem magE_none {L : List Nat} (h : magE L 0 = none) : 4 ≤ L.length := by
  by_cases h4 : L.length < 4
  · exfalso
    have key : ∀ i, i ≤ L.length → magE L i ≠ none := by
      intro i hi
      induction hd : L.length - i generalizing i with
      | zero =>
        rw [magE_eq, if_pos (by omega), if_pos (by omega)]; simp
      | succ d ih =>
        rw [magE_eq, if_pos (by omega), if_neg (by omega)]
        split
        · simp
        · exact ih (i + 1) (by omega) (by omega)
    exact key 0 (by omega) h
  · omega
theorem wordsA_ok {L : List Nat} : ∀ (n a : Nat) (acc ws : List Nat), a ≤ L.length → (∀ y ∈ acc, y < 32768) → wordsA L a n acc = .ok ws → a + 2 * n ≤ L.length ∧ ws.length = acc.length + n ∧ ∀ y ∈ ws, y < 32768
  | 0, a, acc, ws, ha, hb, h => by
    rw [wordsA] at h
    obtain rfl : acc = ws := Except.ok.inj h
    exact ⟨by omega, by omega, hb⟩
  | n + 1, a, acc, ws, ha, hb, h => by
    rw [wordsA] at h
    cases hw : wordE L a 32767 with
    | some e => rw [hw] at h; cases h
    | none =>
      rw [hw] at h
      obtain ⟨h1, h2⟩ := wordE_none hw
      obtain ⟨q1, q2, q3⟩ := wordsA_ok n (a + 2) _ ws h1 (fun y hy => by
        rcases List.mem_append.mp hy with hy | hy
        · exact hb y hy
        · rw [List.mem_singleton] at hy; subst hy; omega) h
      exact ⟨by omega, by rw [q2]; simp; omega, q3⟩
theorem bankA_ok {L : List Nat} {a : Nat} {last : Int} {b : BankR} {a' : Nat} (h : bankA L a last = .ok (b, a')) : a' ≤ L.length ∧ BankB b ∧ a < a' ∧ sealedB b = true := by
  unfold bankA at h
  cases h1 : wordE L a 35 with
  | some e => rw [h1] at h; cases h
  | none =>
    rw [h1] at h
    dsimp only at h
    split at h
    · cases h
    · obtain ⟨q1, q2⟩ := wordE_none h1
      cases h2 : wordE L (a + 2) 1024 with
      | some e => rw [h2] at h; cases h
      | none =>
        rw [h2] at h
        obtain ⟨q3, q4⟩ := wordE_none h2
        dsimp only at h
        cases h3 : wordsA L (a + 4) (lo (wordS L (a + 2))) [] with
        | error e => rw [h3] at h; cases h
        | ok ws =>
          rw [h3] at h
          dsimp only at h
          obtain ⟨r1, r2, r3⟩ := wordsA_ok _ _ _ _ (by omega) (fun y hy => by cases hy) h3
          split at h
          · cases h
          · rename_i hs
            have e := Except.ok.inj h
            injection e with e1 e2
            subst e1; subst e2
            have hl0 : ws.length = lo (wordS L (a + 2)) := by simpa using r2
            exact ⟨r1, ⟨by unfold inI64; dsimp only; omega, by dsimp only; omega, fun y hy => by have := r3 y hy; omega⟩, by omega, by simpa using hs⟩
set_option maxHeartbeats 4000000 in
theorem f27h (L : List Nat) (hL : BtB L) : HeapCall Try.prog 27 [.pv (bytesP L)] [] fun r Hout => r = unpackT (unpackA L) ∧ Hout = [] := by
  have hl := hL.1
  refine HeapCall.recover (g := 51) (nc := 3) tab_ok mixed (by kernel_rfl) Try.func27 rfl rfl rfl rfl rfl (by kernel_rfl) Try.func51 rfl rfl rfl (by decide) (by decide) (by decide) (by decide) (by decide) ?_
  conv => whnf
  repeat (first | ((with_reducible first | apply ga | apply gb | apply gc | apply gd | apply ge | apply gf | apply gg | apply gh | apply gi | apply gj); conv => whnf) | (refine ⟨⟨rfl, rfl, nle rfl, nle rfl⟩, ?_⟩; conv => whnf) | fail)
  refine ⟨rfl, _, _, rfl, ?_⟩
  conv => whnf
  repeat (first | ((with_reducible first | apply ga | apply gb | apply gc | apply gd | apply ge | apply gf | apply gg | apply gh | apply gi | apply gj); conv => whnf) | (refine ⟨⟨rfl, rfl, nle rfl, nle rfl⟩, ?_⟩; conv => whnf) | fail)
  refine CallK.heapK (f52 L hL 0) [] [(100, 11)] rfl rfl rfl ⟨.ptr _ _ _ _ _ _ _ _ _ rfl rfl rfl rfl, trivial⟩ ⟨.inl ⟨_, _, rfl, rfl, rfl, rdLe rfl rfl rfl rfl .same .same⟩, trivial⟩ 2000 rfl ?_ ?_
  · rintro _ _ ⟨hE, rfl, rfl⟩
    have h4 := magE_none hE
    conv => whnf
    repeat (first | ((with_reducible first | apply ga | apply gb | apply gc | apply gd | apply ge | apply gf | apply gg | apply gh | apply gi | apply gj); conv => whnf) | (refine ⟨⟨rfl, rfl, nle rfl, nle rfl⟩, ?_⟩; conv => whnf) | fail)
    refine CallK.heapK (f53 L hL 4 36 h4 (by decide)) [] [(100, 11)] rfl rfl rfl ⟨.ptr _ _ _ _ _ _ _ _ _ rfl rfl rfl rfl, .same, trivial⟩ ⟨.inl ⟨_, _, rfl, rfl, rfl, rdLe rfl rfl rfl rfl .same .same⟩, trivial⟩ 3000 rfl ?_ ?_
    · rintro _ _ ⟨hF, rfl, rfl⟩
      have hF1 := wordE_none hF
      conv => whnf
      repeat (first | ((with_reducible first | apply ga | apply gb | apply gc | apply gd | apply ge | apply gf | apply gg | apply gh | apply gi | apply gj); conv => whnf) | (refine ⟨⟨rfl, rfl, nle rfl, nle rfl⟩, ?_⟩; conv => whnf) | fail)
      refine ex_loop tab_ok mixed (fun x : Nat × Int × Nat × List BankR × Nat => (x.1 ≤ lo (wordS L 4) ∧ x.2.2.2.2 ≤ L.length ∧ x.2.2.2.1.length = x.1 ∧ inI64 x.2.1) ∧ banksA L 6 (lo (wordS L 4)) (-1) [] = banksA L x.2.2.2.2 (lo (wordS L 4) - x.1) x.2.1 x.2.2.2.1)
        (fun x => mkStX 42 [(0, .pv (bytesP L)), (2, .ptr 2 0 1 0 0), (3, .ptr 3 0 1 0 0), (4, .ptr 4 0 1 0 0), (5, .ptr 11 0 2 0 0), (6, i64 x.2.1), (15, i64 (lo (wordS L 4) : Nat)), (16, i64 x.1)]
          [(11, rdO L (x.2.2.2.2 : Nat)), (2, clO 27 (.row 1000 x.2.2.1 2 0 x.2.2.2.1.length)), (3, clO 3 (i64 0)), (4, clO 28 (i64 0)), (1000, rowA 35 2 BankR.p b0 x.2.2.1 x.2.2.2.1)] (XD funD))
        (fun x => lo (wordS L 4) - x.1) (0, -1, 0, [], 6) ⟨⟨by omega, by dsimp only; omega, rfl, by unfold inI64; decide⟩, rfl⟩
        (SubS.mkD [] [(11, 11), (2, 2), (3, 3), (4, 4)] rfl rfl rfl ⟨⟨_, rfl, .same⟩, ⟨_, rfl, .ptr _ _ _ _ _ _ _ _ _ rfl rfl rfl rfl⟩, ⟨_, rfl, .ptr _ _ _ _ _ _ _ _ _ rfl rfl rfl rfl⟩, ⟨_, rfl, .ptr _ _ _ _ _ _ _ _ _ rfl rfl rfl rfl⟩, ⟨_, rfl, .ptr _ _ _ _ _ _ _ _ _ rfl rfl rfl rfl⟩, ⟨_, rfl, .same⟩, ⟨_, rfl, .same⟩, ⟨_, rfl, .same⟩, trivial⟩
          ⟨.inl ⟨_, _, rfl, rfl, rfl, rdLe rfl rfl rfl rfl .same .same⟩, .inl ⟨_, _, rfl, rfl, rfl, clLe rfl rfl rfl rfl (.void _ _ _)⟩, .inl ⟨_, _, rfl, rfl, rfl, clLe rfl rfl rfl rfl .same⟩, .inl ⟨_, _, rfl, rfl, rfl, clLe rfl rfl rfl rfl .same⟩, .inr (.inl ⟨rfl, rfl⟩), trivial⟩ rfl (funLe rfl fun i hi => (match i, hi with | 0, _ => .ptr _ _ _ _ _ _ _ _ _ rfl rfl rfl rfl | 1, _ => .ptr _ _ _ _ _ _ _ _ _ rfl rfl rfl rfl | 2, _ => .ptr _ _ _ _ _ _ _ _ _ rfl rfl rfl rfl))) ?_
      rintro ⟨k, last, g, acc, a⟩ ⟨⟨hk, hka, hal, hlast⟩, hI⟩
      dsimp only at hk hka hal hlast hI ⊢
      conv => whnf
      repeat (first | ((with_reducible first | apply ga | apply gb | apply gc | apply gd | apply ge | apply gf | apply gg | apply gh | apply gi | apply gj); conv => whnf) | (refine ⟨⟨rfl, rfl, nle rfl, nle rfl⟩, ?_⟩; conv => whnf) | fail)
      refine ⟨fun hc => ?_, fun hc => ?_⟩ <;> replace hc := nm hc <;> (try rw [Int.toNat_zero] at hc) <;> (try rw [Int.toNat_one] at hc)
      · have hlt : k < lo (wordS L 4) := by omega
        rw [show lo (wordS L 4) - k = (lo (wordS L 4) - (k + 1)) + 1 by omega, banksA] at hI
        conv => whnf
        repeat (first | ((with_reducible first | apply ga | apply gb | apply gc | apply gd | apply ge | apply gf | apply gg | apply gh | apply gi | apply gj); conv => whnf) | (refine ⟨⟨rfl, rfl, nle rfl, nle rfl⟩, ?_⟩; conv => whnf) | fail)
        refine CallK.heapK (f54 L hL a hka last) [] [(100, 11)] rfl rfl rfl ⟨.ptr _ _ _ _ _ _ _ _ _ rfl rfl rfl rfl, .same, trivial⟩ ⟨.inl ⟨_, _, rfl, rfl, rfl, rdLe rfl rfl rfl rfl .same .same⟩, trivial⟩ 4000 rfl ?_ ?_
        · rintro _ _ ⟨b, a', hG, rfl, rfl⟩
          rw [hG] at hI
          conv => whnf
          repeat (first | ((with_reducible first | apply ga | apply gb | apply gc | apply gd | apply ge | apply gf | apply gg | apply gh | apply gi | apply gj); conv => whnf) | (refine ⟨⟨rfl, rfl, nle rfl, nle rfl⟩, ?_⟩; conv => whnf) | fail)
          repeat (refine ⟨⟨rfl, rfl, nle rfl, nle rfl⟩, ?_⟩; conv => whnf)
          repeat (first | ((with_reducible first | apply ga | apply gb | apply gc | apply gd | apply ge | apply gf | apply gg | apply gh | apply gi | apply gj); conv => whnf) | (refine ⟨⟨rfl, rfl, nle rfl, nle rfl⟩, ?_⟩; conv => whnf) | fail)
          refine ⟨⟨⟨rfl, rfl, rfl, nle rfl⟩, rfl, rfl, rfl, rfl, rfl, rfl, by show (acc.length + 1) * 32 ≤ _; omega⟩, ?_⟩
          conv => whnf
          repeat (first | ((with_reducible first | apply ga | apply gb | apply gc | apply gd | apply ge | apply gf | apply gg | apply gh | apply gi | apply gj); conv => whnf) | (refine ⟨⟨rfl, rfl, nle rfl, nle rfl⟩, ?_⟩; conv => whnf) | fail)
          repeat (refine ⟨⟨rfl, rfl, nle rfl, nle rfl⟩, ?_⟩; conv => whnf)
          repeat (first | ((with_reducible first | apply ga | apply gb | apply gc | apply gd | apply ge | apply gf | apply gg | apply gh | apply gi | apply gj); conv => whnf) | (refine ⟨⟨rfl, rfl, nle rfl, nle rfl⟩, ?_⟩; conv => whnf) | fail)
          refine ⟨⟨by unfold inI64; omega⟩, ?_⟩
          conv => whnf
          repeat (first | ((with_reducible first | apply ga | apply gb | apply gc | apply gd | apply ge | apply gf | apply gg | apply gh | apply gi | apply gj); conv => whnf) | (refine ⟨⟨rfl, rfl, nle rfl, nle rfl⟩, ?_⟩; conv => whnf) | fail)
          obtain ⟨hb1, hb2, _, _⟩ := bankA_ok hG
          refine ⟨(k + 1, b.num, g + 1, acc ++ [b], a'), ⟨⟨hlt, hb1, by simp [hal], hb2.1⟩, hI⟩, SubS.mkD [] [(11, 11), (2, 2), (3, 3), (4, 4), (1000, 1000)] rfl rfl rfl ⟨⟨_, rfl, .same⟩, ⟨_, rfl, .ptr _ _ _ _ _ _ _ _ _ rfl rfl rfl rfl⟩, ⟨_, rfl, .ptr _ _ _ _ _ _ _ _ _ rfl rfl rfl rfl⟩, ⟨_, rfl, .ptr _ _ _ _ _ _ _ _ _ rfl rfl rfl rfl⟩, ⟨_, rfl, .ptr _ _ _ _ _ _ _ _ _ rfl rfl rfl rfl⟩, ⟨_, rfl, .same⟩, ⟨_, rfl, .same⟩, ⟨_, rfl, .same⟩, trivial⟩
            ⟨.inl ⟨_, _, rfl, rfl, rfl, rdLe rfl rfl rfl rfl .same .same⟩, .inl ⟨_, _, rfl, rfl, rfl, clLe rfl rfl rfl rfl (.row _ _ _ _ _ _ _ _ _ rfl rfl rfl (by simp))⟩, .inl ⟨_, _, rfl, rfl, rfl, clLe rfl rfl rfl rfl .same⟩, .inl ⟨_, _, rfl, rfl, rfl, clLe rfl rfl rfl rfl .same⟩, .inl ⟨_, _, rfl, rfl, rfl, OLe.snocA rfl rfl rfl rfl rfl fun j hj => ?_⟩, trivial⟩ rfl (funLe rfl fun i hi => (match i, hi with | 0, _ => .ptr _ _ _ _ _ _ _ _ _ rfl rfl rfl rfl | 1, _ => .ptr _ _ _ _ _ _ _ _ _ rfl rfl rfl rfl | 2, _ => .ptr _ _ _ _ _ _ _ _ _ rfl rfl rfl rfl)), by dsimp only; omega⟩
          match j, hj with
          | 0, _ => exact .same
          | 1, _ => exact .same
        · rintro _ _ ⟨p, e, a', hG, rfl, rfl⟩
          rw [hG] at hI
          rw [show unpackA L = .error (p, e) by unfold unpackA; rw [hE]; dsimp only; rw [hF]; dsimp only; rw [hI]]
          exact ⟨rfl, stE (.row 1000 g 2 0 acc.length) 0 0 (rowA 35 2 BankR.p b0 g acc), SubS.mkD [] [(1002, 2), (1003, 3), (1004, 4), (1000, 1000)] rfl rfl rfl ⟨⟨_, rfl, .ptr _ _ _ _ _ _ _ _ _ rfl rfl rfl rfl⟩, ⟨_, rfl, .ptr _ _ _ _ _ _ _ _ _ rfl rfl rfl rfl⟩, ⟨_, rfl, .ptr _ _ _ _ _ _ _ _ _ rfl rfl rfl rfl⟩, trivial⟩
            ⟨.inl ⟨_, _, rfl, rfl, rfl, clLe rfl rfl rfl rfl (.row _ _ _ _ _ _ _ _ _ rfl rfl rfl rfl)⟩, .inl ⟨_, _, rfl, rfl, rfl, clLe rfl rfl rfl rfl .same⟩, .inl ⟨_, _, rfl, rfl, rfl, clLe rfl rfl rfl rfl .same⟩, .inl ⟨_, _, rfl, rfl, rfl, .keepA⟩, trivial⟩ rfl (funLe rfl fun i hi => (match i, hi with | 0, _ => .ptr _ _ _ _ _ _ _ _ _ rfl rfl rfl rfl | 1, _ => .ptr _ _ _ _ _ _ _ _ _ rfl rfl rfl rfl | 2, _ => .ptr _ _ _ _ _ _ _ _ _ rfl rfl rfl rfl)), recP _ 0 0 _ p e⟩
      · rw [show lo (wordS L 4) - k = 0 by omega, banksA] at hI
        conv => whnf
        repeat (first | ((with_reducible first | apply ga | apply gb | apply gc | apply gd | apply ge | apply gf | apply gg | apply gh | apply gi | apply gj); conv => whnf) | (refine ⟨⟨rfl, rfl, nle rfl, nle rfl⟩, ?_⟩; conv => whnf) | fail)
        refine ⟨fun hd => ?_, fun hd => ?_⟩ <;> replace hd := nm hd <;> (try rw [Int.toNat_zero] at hd) <;> (try rw [Int.toNat_one] at hd)
        · conv => whnf
          repeat (first | ((with_reducible first | apply ga | apply gb | apply gc | apply gd | apply ge | apply gf | apply gg | apply gh | apply gi | apply gj); conv => whnf) | (refine ⟨⟨rfl, rfl, nle rfl, nle rfl⟩, ?_⟩; conv => whnf) | fail)
          repeat (refine ⟨⟨rfl, rfl, nle rfl, nle rfl⟩, ?_⟩; conv => whnf)
          repeat (first | ((with_reducible first | apply ga | apply gb | apply gc | apply gd | apply ge | apply gf | apply gg | apply gh | apply gi | apply gj); conv => whnf) | (refine ⟨⟨rfl, rfl, nle rfl, nle rfl⟩, ?_⟩; conv => whnf) | fail)
          rw [show unpackA L = .error (a, 5) by unfold unpackA; rw [hE]; dsimp only; rw [hF]; dsimp only; rw [hI]; dsimp only; rw [if_pos (by omega)]]
          refine ⟨rfl, stE (.row 1000 g 2 0 acc.length) 0 0 (rowA 35 2 BankR.p b0 g acc), SubS.mkD [] [(1002, 2), (1003, 3), (1004, 4), (1000, 1000)] rfl rfl rfl ⟨⟨_, rfl, .ptr _ _ _ _ _ _ _ _ _ rfl rfl rfl rfl⟩, ⟨_, rfl, .ptr _ _ _ _ _ _ _ _ _ rfl rfl rfl rfl⟩, ⟨_, rfl, .ptr _ _ _ _ _ _ _ _ _ rfl rfl rfl rfl⟩, trivial⟩
            ⟨.inl ⟨_, _, rfl, rfl, rfl, clLe rfl rfl rfl rfl (.row _ _ _ _ _ _ _ _ _ rfl rfl rfl rfl)⟩, .inl ⟨_, _, rfl, rfl, rfl, clLe rfl rfl rfl rfl .same⟩, .inl ⟨_, _, rfl, rfl, rfl, clLe rfl rfl rfl rfl .same⟩, .inl ⟨_, _, rfl, rfl, rfl, .keepA⟩, trivial⟩ rfl (funLe rfl fun i hi => (match i, hi with | 0, _ => .ptr _ _ _ _ _ _ _ _ _ rfl rfl rfl rfl | 1, _ => .ptr _ _ _ _ _ _ _ _ _ rfl rfl rfl rfl | 2, _ => .ptr _ _ _ _ _ _ _ _ _ rfl rfl rfl rfl)), ?_⟩
          refine ⟨rfl, _, _, rfl, ?_⟩
          conv => whnf
          repeat (first | ((with_reducible first | apply ga | apply gb | apply gc | apply gd | apply ge | apply gf | apply gg | apply gh | apply gi | apply gj); conv => whnf) | (refine ⟨⟨rfl, rfl, nle rfl, nle rfl⟩, ?_⟩; conv => whnf) | fail)
          repeat (refine ⟨⟨rfl, rfl, nle rfl, nle rfl⟩, ?_⟩; conv => whnf)
          repeat (first | ((with_reducible first | apply ga | apply gb | apply gc | apply gd | apply ge | apply gf | apply gg | apply gh | apply gi | apply gj); conv => whnf) | (refine ⟨⟨rfl, rfl, nle rfl, nle rfl⟩, ?_⟩; conv => whnf) | fail)
          refine ⟨rfl, ?_⟩
          conv => whnf
          repeat (first | ((with_reducible first | apply ga | apply gb | apply gc | apply gd | apply ge | apply gf | apply gg | apply gh | apply gi | apply gj); conv => whnf) | (refine ⟨⟨rfl, rfl, nle rfl, nle rfl⟩, ?_⟩; conv => whnf) | fail)
          refine ⟨rfl, ?_⟩
          conv => whnf
          repeat (first | ((with_reducible first | apply ga | apply gb | apply gc | apply gd | apply ge | apply gf | apply gg | apply gh | apply gi | apply gj); conv => whnf) | (refine ⟨⟨rfl, rfl, nle rfl, nle rfl⟩, ?_⟩; conv => whnf) | fail)
          repeat (refine ⟨⟨rfl, rfl, nle rfl, nle rfl⟩, ?_⟩; conv => whnf)
          repeat (first | ((with_reducible first | apply ga | apply gb | apply gc | apply gd | apply ge | apply gf | apply gg | apply gh | apply gi | apply gj); conv => whnf) | (refine ⟨⟨rfl, rfl, nle rfl, nle rfl⟩, ?_⟩; conv => whnf) | fail)
          refine ⟨_, _, ⟨rfl, rfl⟩, SubS.mk [] rfl ⟨⟨_, rfl, .tup _ _ _ fun i hi => ?_⟩, trivial⟩ trivial⟩
          match i, hi with
          | 0, _ => exact VLe.nilA
          | 1, _ => exact .same
          | 2, _ => exact .same
        · conv => whnf
          repeat (first | ((with_reducible first | apply ga | apply gb | apply gc | apply gd | apply ge | apply gf | apply gg | apply gh | apply gi | apply gj); conv => whnf) | (refine ⟨⟨rfl, rfl, nle rfl, nle rfl⟩, ?_⟩; conv => whnf) | fail)
          repeat (refine ⟨⟨rfl, rfl, nle rfl, nle rfl⟩, ?_⟩; conv => whnf)
          repeat (first | ((with_reducible first | apply ga | apply gb | apply gc | apply gd | apply ge | apply gf | apply gg | apply gh | apply gi | apply gj); conv => whnf) | (refine ⟨⟨rfl, rfl, nle rfl, nle rfl⟩, ?_⟩; conv => whnf) | fail)
          rw [show unpackA L = .ok acc by unfold unpackA; rw [hE]; dsimp only; rw [hF]; dsimp only; rw [hI]; dsimp only; rw [if_neg (by omega)]]
          exact ⟨stE (.row 1000 g 2 0 acc.length) 0 0 (rowA 35 2 BankR.p b0 g acc), SubS.mkD [] [(1002, 2), (1003, 3), (1004, 4), (1000, 1000)] rfl rfl rfl ⟨⟨_, rfl, .ptr _ _ _ _ _ _ _ _ _ rfl rfl rfl rfl⟩, ⟨_, rfl, .ptr _ _ _ _ _ _ _ _ _ rfl rfl rfl rfl⟩, ⟨_, rfl, .ptr _ _ _ _ _ _ _ _ _ rfl rfl rfl rfl⟩, trivial⟩
            ⟨.inl ⟨_, _, rfl, rfl, rfl, clLe rfl rfl rfl rfl (.row _ _ _ _ _ _ _ _ _ rfl rfl rfl rfl)⟩, .inl ⟨_, _, rfl, rfl, rfl, clLe rfl rfl rfl rfl .same⟩, .inl ⟨_, _, rfl, rfl, rfl, clLe rfl rfl rfl rfl .same⟩, .inl ⟨_, _, rfl, rfl, rfl, .keepA⟩, trivial⟩ rfl (funLe rfl fun i hi => (match i, hi with | 0, _ => .ptr _ _ _ _ _ _ _ _ _ rfl rfl rfl rfl | 1, _ => .ptr _ _ _ _ _ _ _ _ _ rfl rfl rfl rfl | 2, _ => .ptr _ _ _ _ _ _ _ _ _ rfl rfl rfl rfl)), recN _ 0 0 _ (banksP acc) ⟨[1000], VLe.frzA rfl rfl rfl⟩ rfl⟩
    · rintro _ _ ⟨p, e, hF, rfl, rfl⟩
      rw [show unpackA L = .error (p, e) by unfold unpackA; rw [hE]; dsimp only; rw [hF]]
      exact ⟨rfl, stE .nilS 0 0 (rowA 35 2 BankR.p b0 0 []), SubS.mkD [] [(1002, 2), (1003, 3), (1004, 4)] rfl rfl rfl ⟨⟨_, rfl, .ptr _ _ _ _ _ _ _ _ _ rfl rfl rfl rfl⟩, ⟨_, rfl, .ptr _ _ _ _ _ _ _ _ _ rfl rfl rfl rfl⟩, ⟨_, rfl, .ptr _ _ _ _ _ _ _ _ _ rfl rfl rfl rfl⟩, trivial⟩
        ⟨.inl ⟨_, _, rfl, rfl, rfl, clLe rfl rfl rfl rfl .nils⟩, .inl ⟨_, _, rfl, rfl, rfl, clLe rfl rfl rfl rfl .same⟩, .inl ⟨_, _, rfl, rfl, rfl, clLe rfl rfl rfl rfl .same⟩, .inr (.inl ⟨rfl, rfl⟩), trivial⟩ rfl (funLe rfl fun i hi => (match i, hi with | 0, _ => .ptr _ _ _ _ _ _ _ _ _ rfl rfl rfl rfl | 1, _ => .ptr _ _ _ _ _ _ _ _ _ rfl rfl rfl rfl | 2, _ => .ptr _ _ _ _ _ _ _ _ _ rfl rfl rfl rfl)), recP .nilS 0 0 (rowA 35 2 BankR.p b0 0 []) p e⟩
  · rintro _ _ ⟨p, e, hE, rfl, rfl⟩
    rw [show unpackA L = .error (p, e) by unfold unpackA; rw [hE]]
    exact ⟨rfl, stE .nilS 0 0 (rowA 35 2 BankR.p b0 0 []), SubS.mkD [] [(1002, 2), (1003, 3), (1004, 4)] rfl rfl rfl ⟨⟨_, rfl, .ptr _ _ _ _ _ _ _ _ _ rfl rfl rfl rfl⟩, ⟨_, rfl, .ptr _ _ _ _ _ _ _ _ _ rfl rfl rfl rfl⟩, ⟨_, rfl, .ptr _ _ _ _ _ _ _ _ _ rfl rfl rfl rfl⟩, trivial⟩
      ⟨.inl ⟨_, _, rfl, rfl, rfl, clLe rfl rfl rfl rfl .nils⟩, .inl ⟨_, _, rfl, rfl, rfl, clLe rfl rfl rfl rfl .same⟩, .inl ⟨_, _, rfl, rfl, rfl, clLe rfl rfl rfl rfl .same⟩, .inr (.inl ⟨rfl, rfl⟩), trivial⟩ rfl (funLe rfl fun i hi => (match i, hi with | 0, _ => .ptr _ _ _ _ _ _ _ _ _ rfl rfl rfl rfl | 1, _ => .ptr _ _ _ _ _ _ _ _ _ rfl rfl rfl rfl | 2, _ => .ptr _ _ _ _ _ _ _ _ _ rfl rfl rfl rfl)), recP .nilS 0 0 (rowA 35 2 BankR.p b0 0 []) p e⟩
theorem f27 (L : List Nat) (hL : BtB L) : PureCall Try.prog 27 [.pv (bytesP L)] (unpackT (unpackA L)) := HeapCall.pure (f27h L hL)
end Go.Proofs.Ytioccpodnkllfaa

namespace Go.Proofs.Ytioccpodnkllfaa
open Go Go.AM
attribute [local irreducible] AWP CallK PureCall SubS HeapCall
def packE : List BankR → Int → Int
  | [], _ => 0
  | b :: bs, last => if checkE b last ≠ 0 then checkE b last else packE bs b.num
def bankBy (b : BankR) : List Nat := two b.num.toNat ++ two b.ws.length ++ twos b.ws
def packB (l : List BankR) : List Nat := magicL ++ two l.length ++ l.flatMap bankBy
def packR (l : List BankR) : List Nat × Int := if packE l (-1) ≠ 0 then ([], packE l (-1)) else (packB l, 0)
def packT (x : List Nat × Int) : AV := tupV [.pv (bytesP x.1), i64 x.2]
theorem checkE_ok {b : BankR} {last : Int} (h : checkE b last = 0) : 0 ≤ b.num ∧ b.num ≤ 35 ∧ b.ws.length ≤ 1024 := by
  unfold checkE at h
  split at h
  · cases h
  · rename_i h1
    have hn := num_in h1
    split at h
    · cases h
    · split at h
      · cases h
      · rename_i h3
        have : lenB b.ws = true := by simpa using h3
        unfold lenB at this
        have := of_decide_eq_true this
        exact ⟨hn.1, hn.2, by omega⟩
theorem packE_ok : ∀ (l : List BankR) (last : Int), packE l last = 0 → ∀ b ∈ l, 0 ≤ b.num ∧ b.num ≤ 35 ∧ b.ws.length ≤ 1024
  | [], _, _, _, hb => by cases hb
  | b :: bs, last, h, c, hc => by
    rw [packE] at h
    split at h
    · rename_i h1; exact absurd h h1
    · rename_i h1
      rcases List.mem_cons.mp hc with rfl | hc
      · exact checkE_ok (Classical.not_not.mp h1)
      · exact packE_ok bs b.num h c hc
theorem packB_len {l : List BankR} (h : ∀ b ∈ l, 0 ≤ b.num ∧ b.num ≤ 35 ∧ b.ws.length ≤ 1024) : ∀ {i : Nat}, i ≤ l.length → ((l.take i).flatMap bankBy).length ≤ i * 2052
  | 0, _ => by simp
  | i + 1, hi => by
    have ih := packB_len h (i := i) (by omega)
    rw [take_sn (d := b0) (by omega), List.flatMap_append, List.length_append]
    have hb := h (l.getD i b0) (by rw [List.getD_eq_getElem?_getD, List.getElem?_eq_getElem (by omega)]; exact List.getElem_mem _)
    have : ([l.getD i b0].flatMap bankBy).length = 4 + 2 * (l.getD i b0).ws.length := by
      simp [bankBy, two, twos_len]; omega
    rw [this]; omega
theorem f25 (l : List BankR) (h : BsB l) (hl : l.length ≤ 100) : PureCall Try.prog 25 [.pv (banksP l)] (packT (packR l)) := by
  refine PureCall.run tab_ok mixed (by kernel_rfl) Try.func25 rfl rfl rfl ?_
  conv => whnf
  repeat (first | ((with_reducible first | apply ga | apply gb | apply gc | apply gd | apply ge | apply gf | apply gg | apply gh | apply gi | apply gj); conv => whnf) | (refine ⟨⟨rfl, rfl, nle rfl, nle rfl⟩, ?_⟩; conv => whnf) | fail)
  refine ex_loop tab_ok mixed (fun x : Nat × Int => x.1 ≤ l.length ∧ packE l (-1) = packE (l.drop x.1) x.2) (fun x => mkSt 55 [(0, .pv (banksP l)), (4, i64 x.2), (11, .pv (banksP l)), (12, i64 l.length), (13, i64 x.1)] []) (fun x => l.length - x.1) (0, -1) ⟨Nat.zero_le _, rfl⟩ (SubS.mk [] rfl ⟨⟨_, rfl, .same⟩, ⟨_, rfl, .same⟩, ⟨_, rfl, .same⟩, ⟨_, rfl, .same⟩, ⟨_, rfl, .same⟩, trivial⟩ trivial) ?_
  rintro ⟨i, last⟩ ⟨hi, hI⟩
  dsimp only at hi hI ⊢
  conv => whnf
  repeat (first | ((with_reducible first | apply ga | apply gb | apply gc | apply gd | apply ge | apply gf | apply gg | apply gh | apply gi | apply gj); conv => whnf) | (refine ⟨⟨rfl, rfl, nle rfl, nle rfl⟩, ?_⟩; conv => whnf) | fail)
  refine ⟨fun hc => ?_, fun hc => ?_⟩ <;> replace hc := nm hc <;> (try rw [Int.toNat_zero] at hc) <;> (try rw [Int.toNat_one] at hc)
  · have hlt : i < l.length := by omega
    have hb := bsB h hlt
    rw [drop_getD (d := b0) hlt, packE] at hI
    conv => whnf
    repeat (first | ((with_reducible first | apply ga | apply gb | apply gc | apply gd | apply ge | apply gf | apply gg | apply gh | apply gi | apply gj); conv => whnf) | (refine ⟨⟨rfl, rfl, nle rfl, nle rfl⟩, ?_⟩; conv => whnf) | fail)
    refine ⟨⟨by omega, by omega, rfl⟩, ?_⟩
    conv => whnf
    repeat (first | ((with_reducible first | apply ga | apply gb | apply gc | apply gd | apply ge | apply gf | apply gg | apply gh | apply gi | apply gj); conv => whnf) | (refine ⟨⟨rfl, rfl, nle rfl, nle rfl⟩, ?_⟩; conv => whnf) | fail)
    refine ⟨⟨by decide⟩, ?_⟩
    conv => whnf
    repeat (first | ((with_reducible first | apply ga | apply gb | apply gc | apply gd | apply ge | apply gf | apply gg | apply gh | apply gi | apply gj); conv => whnf) | (refine ⟨⟨rfl, rfl, nle rfl, nle rfl⟩, ?_⟩; conv => whnf) | fail)
    refine CallK.flat [] (f47 (l.getD i b0) hb last) ⟨agg2 .same .same,.same, trivial⟩ rfl ?_
    conv => whnf
    repeat (first | ((with_reducible first | apply ga | apply gb | apply gc | apply gd | apply ge | apply gf | apply gg | apply gh | apply gi | apply gj); conv => whnf) | (refine ⟨⟨rfl, rfl, nle rfl, nle rfl⟩, ?_⟩; conv => whnf) | fail)
    refine ⟨fun he => ?_, fun he => ?_⟩ <;> replace he := nm he <;> (try rw [Int.toNat_zero] at he) <;> (try rw [Int.toNat_one] at he)
    · rw [if_pos he] at hI
      conv => whnf
      repeat (first | ((with_reducible first | apply ga | apply gb | apply gc | apply gd | apply ge | apply gf | apply gg | apply gh | apply gi | apply gj); conv => whnf) | (refine ⟨⟨rfl, rfl, nle rfl, nle rfl⟩, ?_⟩; conv => whnf) | fail)
      unfold packR
      rw [hI, if_pos he]
      exact done_tup [.pv (bytesP []), i64 (checkE (l.getD i b0) last)] [] rfl ⟨VLe.nilA, .same, trivial⟩
    · rw [if_neg (by simpa using he)] at hI
      conv => whnf
      repeat (first | ((with_reducible first | apply ga | apply gb | apply gc | apply gd | apply ge | apply gf | apply gg | apply gh | apply gi | apply gj); conv => whnf) | (refine ⟨⟨rfl, rfl, nle rfl, nle rfl⟩, ?_⟩; conv => whnf) | fail)
      refine ⟨⟨by unfold inI64; omega⟩, ?_⟩
      conv => whnf
      repeat (first | ((with_reducible first | apply ga | apply gb | apply gc | apply gd | apply ge | apply gf | apply gg | apply gh | apply gi | apply gj); conv => whnf) | (refine ⟨⟨rfl, rfl, nle rfl, nle rfl⟩, ?_⟩; conv => whnf) | fail)
      exact ⟨(i + 1, (l.getD i b0).num), ⟨hlt, hI⟩, SubS.mk [] rfl ⟨⟨_, rfl, .same⟩, ⟨_, rfl, .same⟩, ⟨_, rfl, .same⟩, ⟨_, rfl, .same⟩, ⟨_, rfl, .same⟩, trivial⟩ trivial, by dsimp only; omega⟩
  · rw [List.drop_eq_nil_of_le (by omega), packE] at hI
    have e : packR l = (packB l, 0) := by unfold packR; rw [hI, if_neg (by decide)]
    rw [e]
    conv => whnf
    repeat (first | ((with_reducible first | apply ga | apply gb | apply gc | apply gd | apply ge | apply gf | apply gg | apply gh | apply gi | apply gj); conv => whnf) | (refine ⟨⟨rfl, rfl, nle rfl, nle rfl⟩, ?_⟩; conv => whnf) | fail)
    refine CallK.heap (f48 magicL [l.length] 0 ⟨by simp, fun w hw => by rw [List.mem_singleton] at hw; subst hw; omega⟩ (by decide) (by simp)) [31] [(100, 26)] rfl rfl
      ⟨.row _ _ _ _ _ _ _ _ _ rfl rfl rfl rfl, VLe.frzO (E := 39) (g := 0) (L := [l.length]) rfl rfl ?_ rfl, trivial⟩
      ⟨.inl ⟨_, _, rfl, rfl, rfl, CellsA.row (fun i j hi hj => ?_) rfl rfl rfl⟩, trivial⟩ 2000 rfl ?_
    · refine CellsA.row (CellsA.one fun j hj => ?_) rfl rfl rfl
      have hj0 : j = 0 := Nat.lt_one_iff.mp hj
      subst hj0
      exact VLe.int (wn16 (by omega) (by omega))
    · have hj0 : j = 0 := Nat.lt_one_iff.mp hj
      subst hj0
      match i, hi with
      | 0, _ => exact .same
      | 1, _ => exact .same
      | 2, _ => exact .same
      | 3, _ => exact .same
    · rintro _ _ ⟨g0, rfl, rfl⟩
      have hok := packE_ok l (-1) hI
      have hlen : ∀ i, i ≤ l.length → ((l.take i).flatMap bankBy).length ≤ i * 2052 := fun i hi => packB_len hok hi
      conv => whnf
      repeat (first | ((with_reducible first | apply ga | apply gb | apply gc | apply gd | apply ge | apply gf | apply gg | apply gh | apply gi | apply gj); conv => whnf) | (refine ⟨⟨rfl, rfl, nle rfl, nle rfl⟩, ?_⟩; conv => whnf) | fail)
      refine ex_loop tab_ok mixed (fun x : Nat × Nat × List Nat => x.1 ≤ l.length ∧ x.2.2 = magicL ++ twos [l.length] ++ (l.take x.1).flatMap bankBy) (fun x => mkSt 55 [(8, .row 1000 x.2.1 1 0 x.2.2.length), (33, .pv (banksP l)), (34, i64 l.length), (35, i64 x.1)] [(1000, rowA 5 1 bcell 0 x.2.1 x.2.2)]) (fun x => l.length - x.1) (0, g0, magicL ++ twos [l.length]) ⟨Nat.zero_le _, by simp⟩
        (SubS.mkN [] [(1000, 2200)] rfl rfl rfl ⟨⟨_, rfl, .row _ _ _ _ _ _ _ _ _ rfl rfl rfl rfl⟩, ⟨_, rfl, .same⟩, ⟨_, rfl, .same⟩, ⟨_, rfl, .same⟩, trivial⟩ ⟨.inl ⟨_, _, rfl, rfl, rfl, .keepA⟩, trivial⟩) ?_
      rintro ⟨k, g, X⟩ ⟨hk, hX⟩
      dsimp only at hk hX ⊢
      have hXl : X.length ≤ 6 + k * 2052 := by have h1 := hlen k hk; have h2 : (magicL ++ twos [l.length]).length = 6 := rfl; rw [hX, List.length_append, h2]; omega
      conv => whnf
      repeat (first | ((with_reducible first | apply ga | apply gb | apply gc | apply gd | apply ge | apply gf | apply gg | apply gh | apply gi | apply gj); conv => whnf) | (refine ⟨⟨rfl, rfl, nle rfl, nle rfl⟩, ?_⟩; conv => whnf) | fail)
      refine ⟨fun hd => ?_, fun hd => ?_⟩ <;> replace hd := nm hd <;> (try rw [Int.toNat_zero] at hd) <;> (try rw [Int.toNat_one] at hd)
      · have hlt : k < l.length := by omega
        have hb := bsB h hlt
        have hq := hok (l.getD k b0) (by rw [List.getD_eq_getElem?_getD, List.getElem?_eq_getElem hlt]; exact List.getElem_mem hlt)
        conv => whnf
        repeat (first | ((with_reducible first | apply ga | apply gb | apply gc | apply gd | apply ge | apply gf | apply gg | apply gh | apply gi | apply gj); conv => whnf) | (refine ⟨⟨rfl, rfl, nle rfl, nle rfl⟩, ?_⟩; conv => whnf) | fail)
        refine ⟨⟨by omega, by omega, rfl⟩, ?_⟩
        conv => whnf
        repeat (first | ((with_reducible first | apply ga | apply gb | apply gc | apply gd | apply ge | apply gf | apply gg | apply gh | apply gi | apply gj); conv => whnf) | (refine ⟨⟨rfl, rfl, nle rfl, nle rfl⟩, ?_⟩; conv => whnf) | fail)
        refine ⟨⟨by decide⟩, ?_⟩
        conv => whnf
        repeat (first | ((with_reducible first | apply ga | apply gb | apply gc | apply gd | apply ge | apply gf | apply gg | apply gh | apply gi | apply gj); conv => whnf) | (refine ⟨⟨rfl, rfl, nle rfl, nle rfl⟩, ?_⟩; conv => whnf) | fail)
        repeat (refine ⟨⟨rfl, rfl, nle rfl, nle rfl⟩, ?_⟩; conv => whnf)
        repeat (first | ((with_reducible first | apply ga | apply gb | apply gc | apply gd | apply ge | apply gf | apply gg | apply gh | apply gi | apply gj); conv => whnf) | (refine ⟨⟨rfl, rfl, nle rfl, nle rfl⟩, ?_⟩; conv => whnf) | fail)
        have hn1 : IntKind.u16.wrap (l.getD k b0).num = ((l.getD k b0).num.toNat : Nat) := by rw [wn16 hq.1 (by omega)]; omega
        refine CallK.heap (f48 X [(l.getD k b0).num.toNat, (l.getD k b0).ws.length] g ⟨by simp, fun w hw => by
            rcases List.mem_cons.mp hw with rfl | hw
            · omega
            · rw [List.mem_singleton] at hw; subst hw; omega⟩ (by omega) (by simp)) [47] [(100, 1000)] rfl rfl
          ⟨.row _ _ _ _ _ _ _ _ _ rfl rfl rfl rfl, VLe.frzO (E := 39) (g := 0) (L := [(l.getD k b0).num.toNat, (l.getD k b0).ws.length]) rfl rfl ?_ rfl, trivial⟩
          ⟨.inl ⟨_, _, rfl, rfl, rfl, .keepA⟩, trivial⟩ 2000 rfl ?_
        · refine CellsA.row (fun i j hi hj => ?_) rfl rfl rfl
          have hj0 : j = 0 := Nat.lt_one_iff.mp hj
          subst hj0
          match i, hi with
          | 0, _ => exact VLe.int hn1
          | 1, _ => exact VLe.int (wn16 (n := ((l.getD k b0).ws.length : Int)) (by omega) (by omega))
        · rintro _ _ ⟨g1, rfl, rfl⟩
          conv => whnf
          repeat (first | ((with_reducible first | apply ga | apply gb | apply gc | apply gd | apply ge | apply gf | apply gg | apply gh | apply gi | apply gj); conv => whnf) | (refine ⟨⟨rfl, rfl, nle rfl, nle rfl⟩, ?_⟩; conv => whnf) | fail)
          repeat (refine ⟨⟨rfl, rfl, nle rfl, nle rfl⟩, ?_⟩; conv => whnf)
          repeat (first | ((with_reducible first | apply ga | apply gb | apply gc | apply gd | apply ge | apply gf | apply gg | apply gh | apply gi | apply gj); conv => whnf) | (refine ⟨⟨rfl, rfl, nle rfl, nle rfl⟩, ?_⟩; conv => whnf) | fail)
          refine CallK.heap (f48 (X ++ twos [(l.getD k b0).num.toNat, (l.getD k b0).ws.length]) (l.getD k b0).ws g1 hb.2 (by rw [List.length_append, twos_len]; simp; omega) (by omega)) [] [(100, 2200)] rfl rfl
            ⟨.row _ _ _ _ _ _ _ _ _ rfl rfl rfl rfl, .same, trivial⟩
            ⟨.inl ⟨_, _, rfl, rfl, rfl, .keepA⟩, trivial⟩ 3000 rfl ?_
          rintro _ _ ⟨g2, rfl, rfl⟩
          conv => whnf
          repeat (first | ((with_reducible first | apply ga | apply gb | apply gc | apply gd | apply ge | apply gf | apply gg | apply gh | apply gi | apply gj); conv => whnf) | (refine ⟨⟨rfl, rfl, nle rfl, nle rfl⟩, ?_⟩; conv => whnf) | fail)
          refine ⟨⟨by unfold inI64; omega⟩, ?_⟩
          conv => whnf
          repeat (first | ((with_reducible first | apply ga | apply gb | apply gc | apply gd | apply ge | apply gf | apply gg | apply gh | apply gi | apply gj); conv => whnf) | (refine ⟨⟨rfl, rfl, nle rfl, nle rfl⟩, ?_⟩; conv => whnf) | fail)
          refine ⟨(k + 1, g2, X ++ twos [(l.getD k b0).num.toNat, (l.getD k b0).ws.length] ++ twos (l.getD k b0).ws), ⟨hlt, ?_⟩, SubS.mkN [] [(1000, 3200)] rfl rfl rfl ⟨⟨_, rfl, .row _ _ _ _ _ _ _ _ _ rfl rfl rfl rfl⟩, ⟨_, rfl, .same⟩, ⟨_, rfl, .same⟩, ⟨_, rfl, .same⟩, trivial⟩ ⟨.inl ⟨_, _, rfl, rfl, rfl, .keepA⟩, trivial⟩, by dsimp only; omega⟩
          dsimp only
          rw [take_sn (d := b0) hlt, List.flatMap_append, hX]
          simp [bankBy, twos, List.append_assoc]
      · rw [List.take_of_length_le (by omega)] at hX
        have hXP : X = packB l := by rw [hX]; simp [packB, twos]
        subst hXP
        conv => whnf
        repeat (first | ((with_reducible first | apply ga | apply gb | apply gc | apply gd | apply ge | apply gf | apply gg | apply gh | apply gi | apply gj); conv => whnf) | (refine ⟨⟨rfl, rfl, nle rfl, nle rfl⟩, ?_⟩; conv => whnf) | fail)
        exact done_tup [.pv (bytesP (packB l)), i64 0] [1000] rfl ⟨VLe.frzA rfl rfl rfl, .same, trivial⟩
end Go.Proofs.Ytioccpodnkllfaa
