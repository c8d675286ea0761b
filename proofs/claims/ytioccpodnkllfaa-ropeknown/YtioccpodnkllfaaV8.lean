/- Part of the proof: what the functions that the law calls compute (8). -/
import Derived.Test.YtioccpodnkllfaaV7
namespace Go.Proofs.Ytioccpodnkllfaa
open Go Go.AM
attribute [local irreducible] AWP CallK PureCall SubS HeapCall HeapCallP HeapCallK
theorem f25h (l : List BankR) (h : BsB l) (hl : l.length ≤ 100) (hp : packE l (-1) = 0) : HeapCall Try.prog 25 [.pv (banksP l)] []
    (fun r Hout => ∃ g, r = tupV [.row 200 g 1 0 (packB l).length, i64 0] ∧ Hout = [(200, rowA 5 1 bcell 0 g (packB l))]) := by
  refine HeapCall.run tab_ok mixed (by kernel_rfl) Try.func25 rfl rfl rfl ?_
  conv => whnf
  repeat (first | ((with_reducible first | apply ga | apply gb | apply gc | apply gd | apply ge | apply gf | apply gg | apply gh | apply gi | apply gj); conv => whnf) | (refine ⟨⟨rfl, rfl, nle rfl, nle rfl⟩, ?_⟩; conv => whnf) | fail)
  refine ex_loop tab_ok mixed (fun x : Nat × Int => x.1 ≤ l.length ∧ packE l (-1) = packE (l.drop x.1) x.2) (fun x => mkSt 55 [(0, .pv (banksP l)), (4, i64 x.2), (11, .pv (banksP l)), (12, i64 l.length), (13, i64 x.1)] []) (fun x => l.length - x.1) (0, -1) ⟨Nat.zero_le _, rfl⟩ (SubS.mk [] rfl ⟨⟨_, rfl, .same⟩, ⟨_, rfl, .same⟩, ⟨_, rfl, .same⟩, ⟨_, rfl, .same⟩, ⟨_, rfl, .same⟩, trivial⟩ trivial) ?_
  rintro ⟨i, last⟩ ⟨hi, hI⟩
  dsimp only at hi hI ⊢
  conv => whnf
  repeat (first | ((with_reducible first | apply ga | apply gb | apply gc | apply gd | apply ge | apply gf | apply gg | apply gh | apply gi | apply gj); conv => whnf) | (refine ⟨⟨rfl, rfl, nle rfl, nle rfl⟩, ?_⟩; conv => whnf) | fail)
  refine ⟨fun hc => ?_, fun hc => ?_⟩ <;> replace hc := nm hc <;> (try rw [Int.toNat_zero] at hc) <;> (try rw [Int.toNat_one] at hc)
  · have hlt : i < l.length := by omega
    have hb := bsB h hlt
    rw [drop_getD (d := b0) hlt, packE] at hI
    conv => whnf
    repeat (first | ((with_reducible first | apply ga | apply gb | apply gc | apply gd | apply ge | apply gf | apply gg | apply gh | apply gi | apply gj); conv => whnf) | (refine ⟨⟨rfl, rfl, nle rfl, nle rfl⟩, ?_⟩; conv => whnf) | fail)
    refine ⟨⟨by omega, by omega, rfl⟩, ?_⟩
    conv => whnf
    repeat (first | ((with_reducible first | apply ga | apply gb | apply gc | apply gd | apply ge | apply gf | apply gg | apply gh | apply gi | apply gj); conv => whnf) | (refine ⟨⟨rfl, rfl, nle rfl, nle rfl⟩, ?_⟩; conv => whnf) | fail)
    refine ⟨⟨by decide⟩, ?_⟩
    conv => whnf
    repeat (first | ((with_reducible first | apply ga | apply gb | apply gc | apply gd | apply ge | apply gf | apply gg | apply gh | apply gi | apply gj); conv => whnf) | (refine ⟨⟨rfl, rfl, nle rfl, nle rfl⟩, ?_⟩; conv => whnf) | fail)
    refine CallK.flat [] (f47 (l.getD i b0) hb last) ⟨agg2 .same .same,.same, trivial⟩ rfl ?_
    conv => whnf
    repeat (first | ((with_reducible first | apply ga | apply gb | apply gc | apply gd | apply ge | apply gf | apply gg | apply gh | apply gi | apply gj); conv => whnf) | (refine ⟨⟨rfl, rfl, nle rfl, nle rfl⟩, ?_⟩; conv => whnf) | fail)
    refine ⟨fun he => ?_, fun he => ?_⟩ <;> replace he := nm he <;> (try rw [Int.toNat_zero] at he) <;> (try rw [Int.toNat_one] at he)
    · rw [if_pos he] at hI
      exact absurd (hI.symm.trans hp) he
    · rw [if_neg (by simpa using he)] at hI
      conv => whnf
      repeat (first | ((with_reducible first | apply ga | apply gb | apply gc | apply gd | apply ge | apply gf | apply gg | apply gh | apply gi | apply gj); conv => whnf) | (refine ⟨⟨rfl, rfl, nle rfl, nle rfl⟩, ?_⟩; conv => whnf) | fail)
      refine ⟨⟨by unfold inI64; omega⟩, ?_⟩
      conv => whnf
      repeat (first | ((with_reducible first | apply ga | apply gb | apply gc | apply gd | apply ge | apply gf | apply gg | apply gh | apply gi | apply gj); conv => whnf) | (refine ⟨⟨rfl, rfl, nle rfl, nle rfl⟩, ?_⟩; conv => whnf) | fail)
      exact ⟨(i + 1, (l.getD i b0).num), ⟨hlt, hI⟩, SubS.mk [] rfl ⟨⟨_, rfl, .same⟩, ⟨_, rfl, .same⟩, ⟨_, rfl, .same⟩, ⟨_, rfl, .same⟩, ⟨_, rfl, .same⟩, trivial⟩ trivial, by dsimp only; omega⟩
  · rw [List.drop_eq_nil_of_le (by omega), packE] at hI
    conv => whnf
    repeat (first | ((with_reducible first | apply ga | apply gb | apply gc | apply gd | apply ge | apply gf | apply gg | apply gh | apply gi | apply gj); conv => whnf) | (refine ⟨⟨rfl, rfl, nle rfl, nle rfl⟩, ?_⟩; conv => whnf) | fail)
    refine CallK.heap (f48 magicL [l.length] 0 ⟨by simp, fun w hw => by rw [List.mem_singleton] at hw; subst hw; omega⟩ (by decide) (by simp)) [31] [(100, 26)] rfl rfl
      ⟨.row _ _ _ _ _ _ _ _ _ rfl rfl rfl rfl, VLe.frzO (E := 39) (g := 0) (L := [l.length]) rfl rfl ?_ rfl, trivial⟩
      ⟨.inl ⟨_, _, rfl, rfl, rfl, CellsA.row (fun i j hi hj => ?_) rfl rfl rfl⟩, trivial⟩ 2000 rfl ?_
    · refine CellsA.row (CellsA.one fun j hj => ?_) rfl rfl rfl
      have hj0 : j = 0 := Nat.lt_one_iff.mp hj
      subst hj0
      exact VLe.int (wn16 (by omega) (by omega))
    · have hj0 : j = 0 := Nat.lt_one_iff.mp hj
      subst hj0
      match i, hi with
      | 0, _ => exact .same
      | 1, _ => exact .same
      | 2, _ => exact .same
      | 3, _ => exact .same
    · rintro _ _ ⟨g0, rfl, rfl⟩
      have hok := packE_ok l (-1) hI
      have hlen : ∀ i, i ≤ l.length → ((l.take i).flatMap bankBy).length ≤ i * 2052 := fun i hi => packB_len hok hi
      conv => whnf
      repeat (first | ((with_reducible first | apply ga | apply gb | apply gc | apply gd | apply ge | apply gf | apply gg | apply gh | apply gi | apply gj); conv => whnf) | (refine ⟨⟨rfl, rfl, nle rfl, nle rfl⟩, ?_⟩; conv => whnf) | fail)
      refine ex_loop tab_ok mixed (fun x : Nat × Nat × List Nat => x.1 ≤ l.length ∧ x.2.2 = magicL ++ twos [l.length] ++ (l.take x.1).flatMap bankBy) (fun x => mkSt 55 [(8, .row 1000 x.2.1 1 0 x.2.2.length), (33, .pv (banksP l)), (34, i64 l.length), (35, i64 x.1)] [(1000, rowA 5 1 bcell 0 x.2.1 x.2.2)]) (fun x => l.length - x.1) (0, g0, magicL ++ twos [l.length]) ⟨Nat.zero_le _, by simp⟩
        (SubS.mkN [] [(1000, 2200)] rfl rfl rfl ⟨⟨_, rfl, .row _ _ _ _ _ _ _ _ _ rfl rfl rfl rfl⟩, ⟨_, rfl, .same⟩, ⟨_, rfl, .same⟩, ⟨_, rfl, .same⟩, trivial⟩ ⟨.inl ⟨_, _, rfl, rfl, rfl, .keepA⟩, trivial⟩) ?_
      rintro ⟨k, g, X⟩ ⟨hk, hX⟩
      dsimp only at hk hX ⊢
      have hXl : X.length ≤ 6 + k * 2052 := by have h1 := hlen k hk; have h2 : (magicL ++ twos [l.length]).length = 6 := rfl; rw [hX, List.length_append, h2]; omega
      conv => whnf
      repeat (first | ((with_reducible first | apply ga | apply gb | apply gc | apply gd | apply ge | apply gf | apply gg | apply gh | apply gi | apply gj); conv => whnf) | (refine ⟨⟨rfl, rfl, nle rfl, nle rfl⟩, ?_⟩; conv => whnf) | fail)
      refine ⟨fun hd => ?_, fun hd => ?_⟩ <;> replace hd := nm hd <;> (try rw [Int.toNat_zero] at hd) <;> (try rw [Int.toNat_one] at hd)
      · have hlt : k < l.length := by omega
        have hb := bsB h hlt
        have hq := hok (l.getD k b0) (by rw [List.getD_eq_getElem?_getD, List.getElem?_eq_getElem hlt]; exact List.getElem_mem hlt)
        conv => whnf
        repeat (first | ((with_reducible first | apply ga | apply gb | apply gc | apply gd | apply ge | apply gf | apply gg | apply gh | apply gi | apply gj); conv => whnf) | (refine ⟨⟨rfl, rfl, nle rfl, nle rfl⟩, ?_⟩; conv => whnf) | fail)
        refine ⟨⟨by omega, by omega, rfl⟩, ?_⟩
        conv => whnf
        repeat (first | ((with_reducible first | apply ga | apply gb | apply gc | apply gd | apply ge | apply gf | apply gg | apply gh | apply gi | apply gj); conv => whnf) | (refine ⟨⟨rfl, rfl, nle rfl, nle rfl⟩, ?_⟩; conv => whnf) | fail)
        refine ⟨⟨by decide⟩, ?_⟩
        conv => whnf
        repeat (first | ((with_reducible first | apply ga | apply gb | apply gc | apply gd | apply ge | apply gf | apply gg | apply gh | apply gi | apply gj); conv => whnf) | (refine ⟨⟨rfl, rfl, nle rfl, nle rfl⟩, ?_⟩; conv => whnf) | fail)
        repeat (refine ⟨⟨rfl, rfl, nle rfl, nle rfl⟩, ?_⟩; conv => whnf)
        repeat (first | ((with_reducible first | apply ga | apply gb | apply gc | apply gd | apply ge | apply gf | apply gg | apply gh | apply gi | apply gj); conv => whnf) | (refine ⟨⟨rfl, rfl, nle rfl, nle rfl⟩, ?_⟩; conv => whnf) | fail)
        have hn1 : IntKind.u16.wrap (l.getD k b0).num = ((l.getD k b0).num.toNat : Nat) := by rw [wn16 hq.1 (by omega)]; omega
        refine CallK.heap (f48 X [(l.getD k b0).num.toNat, (l.getD k b0).ws.length] g ⟨by simp, fun w hw => by
            rcases List.mem_cons.mp hw with rfl | hw
            · omega
            · rw [List.mem_singleton] at hw; subst hw; omega⟩ (by omega) (by simp)) [47] [(100, 1000)] rfl rfl
          ⟨.row _ _ _ _ _ _ _ _ _ rfl rfl rfl rfl, VLe.frzO (E := 39) (g := 0) (L := [(l.getD k b0).num.toNat, (l.getD k b0).ws.length]) rfl rfl ?_ rfl, trivial⟩
          ⟨.inl ⟨_, _, rfl, rfl, rfl, .keepA⟩, trivial⟩ 2000 rfl ?_
        · refine CellsA.row (fun i j hi hj => ?_) rfl rfl rfl
          have hj0 : j = 0 := Nat.lt_one_iff.mp hj
          subst hj0
          match i, hi with
          | 0, _ => exact VLe.int hn1
          | 1, _ => exact VLe.int (wn16 (n := ((l.getD k b0).ws.length : Int)) (by omega) (by omega))
        · rintro _ _ ⟨g1, rfl, rfl⟩
          conv => whnf
          repeat (first | ((with_reducible first | apply ga | apply gb | apply gc | apply gd | apply ge | apply gf | apply gg | apply gh | apply gi | apply gj); conv => whnf) | (refine ⟨⟨rfl, rfl, nle rfl, nle rfl⟩, ?_⟩; conv => whnf) | fail)
          repeat (refine ⟨⟨rfl, rfl, nle rfl, nle rfl⟩, ?_⟩; conv => whnf)
          repeat (first | ((with_reducible first | apply ga | apply gb | apply gc | apply gd | apply ge | apply gf | apply gg | apply gh | apply gi | apply gj); conv => whnf) | (refine ⟨⟨rfl, rfl, nle rfl, nle rfl⟩, ?_⟩; conv => whnf) | fail)
          refine CallK.heap (f48 (X ++ twos [(l.getD k b0).num.toNat, (l.getD k b0).ws.length]) (l.getD k b0).ws g1 hb.2 (by rw [List.length_append, twos_len]; simp; omega) (by omega)) [] [(100, 2200)] rfl rfl
            ⟨.row _ _ _ _ _ _ _ _ _ rfl rfl rfl rfl, .same, trivial⟩
            ⟨.inl ⟨_, _, rfl, rfl, rfl, .keepA⟩, trivial⟩ 3000 rfl ?_
          rintro _ _ ⟨g2, rfl, rfl⟩
          conv => whnf
          repeat (first | ((with_reducible first | apply ga | apply gb | apply gc | apply gd | apply ge | apply gf | apply gg | apply gh | apply gi | apply gj); conv => whnf) | (refine ⟨⟨rfl, rfl, nle rfl, nle rfl⟩, ?_⟩; conv => whnf) | fail)
          refine ⟨⟨by unfold inI64; omega⟩, ?_⟩
          conv => whnf
          repeat (first | ((with_reducible first | apply ga | apply gb | apply gc | apply gd | apply ge | apply gf | apply gg | apply gh | apply gi | apply gj); conv => whnf) | (refine ⟨⟨rfl, rfl, nle rfl, nle rfl⟩, ?_⟩; conv => whnf) | fail)
          refine ⟨(k + 1, g2, X ++ twos [(l.getD k b0).num.toNat, (l.getD k b0).ws.length] ++ twos (l.getD k b0).ws), ⟨hlt, ?_⟩, SubS.mkN [] [(1000, 3200)] rfl rfl rfl ⟨⟨_, rfl, .row _ _ _ _ _ _ _ _ _ rfl rfl rfl rfl⟩, ⟨_, rfl, .same⟩, ⟨_, rfl, .same⟩, ⟨_, rfl, .same⟩, trivial⟩ ⟨.inl ⟨_, _, rfl, rfl, rfl, .keepA⟩, trivial⟩, by dsimp only; omega⟩
          dsimp only
          rw [take_sn (d := b0) hlt, List.flatMap_append, hX]
          simp [bankBy, twos, List.append_assoc]
      · rw [List.take_of_length_le (by omega)] at hX
        have hXP : X = packB l := by rw [hX]; simp [packB, twos]
        subst hXP
        conv => whnf
        repeat (first | ((with_reducible first | apply ga | apply gb | apply gc | apply gd | apply ge | apply gf | apply gg | apply gh | apply gi | apply gj); conv => whnf) | (refine ⟨⟨rfl, rfl, nle rfl, nle rfl⟩, ?_⟩; conv => whnf) | fail)
        refine ⟨_, _, ⟨g, rfl, rfl⟩, SubS.mkN [] [(200, 1000)] rfl rfl rfl ⟨⟨_, rfl, .tup _ _ _ fun i hi => ?_⟩, trivial⟩ ⟨.inl ⟨_, _, rfl, rfl, rfl, .keepA⟩, trivial⟩⟩
        match i, hi with
        | 0, _ => exact .row _ _ _ _ _ _ _ _ _ rfl rfl rfl rfl
        | 1, _ => exact .same
theorem OLe.setB {H : Heap} {B : List Nat} {U : List (Nat × Nat)} {V : List Nat} {o : AO} {g i w : Nat} {gv : Nat → AV} (e1 : o.E = 5) (e2 : o.gen = g) (e3 : o.sz = 1) (e4 : o.n = V.length) (hf : o.f = setCells (rowA 5 1 bcell 0 g V).f i 0 1 gv) (h : VLe H B U (gv 0) (.pv (bcell w 0))) (hi : i < V.length) : OLe H B U o (rowA 5 1 bcell 0 g (V.set i w)) :=
  ⟨e1.symm, e2.symm, e3.symm, by show (V.set i w).length ≤ o.n; rw [List.length_set, e4]; exact Nat.le_refl _, fun a b _ hb => by
    rw [e3] at hb
    have hb0 : b = 0 := Nat.lt_one_iff.mp hb
    subst hb0
    rw [hf]
    have e5 : (rowA 5 1 bcell 0 g (V.set i w)).f a 0 = .pv (bcell ((V.set i w).getD a 0) 0) := rfl
    rw [e5, getD_set hi]
    unfold setCells
    by_cases e : a = i
    · subst e; rw [Nat.beq_refl, if_pos rfl]; exact h
    · rw [beqN_ne e, if_neg e]; exact .same⟩
end Go.Proofs.Ytioccpodnkllfaa

namespace Go.Proofs.Ytioccpodnkllfaa
open Go Go.AM
attribute [local irreducible] AWP CallK PureCall SubS HeapCall HeapCallP HeapCallK
theorem odd_flip (x j : Nat) : ∀ n, oddF (x ^^^ 2 ^ j) n = if j < n then !oddF x n else oddF x n
  | 0 => by rw [if_neg (by omega)]; rfl
  | n + 1 => by
    rw [oddF, oddF, odd_flip x j n, Nat.testBit_xor, Nat.testBit_two_pow]
    by_cases h : j < n
    · rw [if_pos h, if_pos (by omega), decide_eq_false (by omega), Bool.xor_false]
      cases oddF x n <;> cases x.testBit n <;> rfl
    · rw [if_neg h]
      by_cases h2 : j = n
      · subst h2
        rw [if_pos (by omega), decide_eq_true rfl, Bool.xor_true]
        cases oddF x j <;> cases x.testBit j <;> rfl
      · rw [if_neg (by omega), decide_eq_false h2, Bool.xor_false]
theorem odd_bytes (a b : Nat) (hb : b < 256) : oddF (a * 256 + b) 16 = (oddF b 8 != oddF a 8) := by
  have key : ∀ m, oddF (a * 256 + b) (8 + m) = (oddF b 8 != oddF a m) := by
    intro m
    induction m with
    | zero =>
      rw [show oddF a 0 = false from rfl, Bool.bne_false]
      exact odd_congr fun i hi => by
        rw [show a * 256 + b = 2 ^ 8 * a + b by omega, Nat.testBit_two_pow_mul_add a (by omega) i, if_pos hi]
    | succ m ih =>
      show (oddF (a * 256 + b) (8 + m) != (a * 256 + b).testBit (8 + m)) = (oddF b 8 != (oddF a m != a.testBit m))
      rw [ih, show a * 256 + b = 2 ^ 8 * a + b by omega, Nat.testBit_two_pow_mul_add a (by omega) (8 + m), if_neg (by omega), show 8 + m - 8 = m by omega]
      cases oddF b 8 <;> cases oddF a m <;> cases a.testBit m <;> rfl
  exact key 8
theorem xor_ne (a j : Nat) : a ^^^ 2 ^ j ≠ a := fun h => by
  have : (a ^^^ 2 ^ j).testBit j = a.testBit j := by rw [h]
  rw [Nat.testBit_xor, Nat.testBit_two_pow_self] at this
  revert this
  cases a.testBit j <;> decide
theorem set_getD {L : List Nat} {i x j : Nat} (h : i < L.length) : (L.set i x).getD j 0 = if j = i then x else L.getD j 0 := getD_set h
theorem xor_lt {a j : Nat} (ha : a < 256) (hj : j < 8) : a ^^^ 2 ^ j < 256 := Nat.xor_lt_two_pow (n := 8) ha (Nat.pow_lt_pow_right (by decide) hj)
theorem mag_congr {L L' : List Nat} (hl : L'.length = L.length) (h : ∀ i, i < 4 → L'.getD i 0 = L.getD i 0) : magE L' 0 = magE L 0 := by
  have key : ∀ d i, 4 - i = d → magE L' i = magE L i := by
    intro d
    induction d with
    | zero => intro i hd; rw [magE_eq L', magE_eq L, if_neg (by omega), if_neg (by omega)]
    | succ d ih => intro i hd; rw [magE_eq L', magE_eq L, hl, h i (by omega), ih (i + 1) (by omega)]
  exact key 4 0 rfl
theorem mag_bad {L L' : List Nat} {q : Nat} (hq : q < 4) (hm : magE L 0 = none) (hl : L'.length = L.length) (h : ∀ i, i < q → L'.getD i 0 = L.getD i 0) (hb : L'.getD q 0 ≠ L.getD q 0) : magE L' 0 = some (q, 5) := by
  have h4 := magE_none hm
  have hg : ∀ i, i < 4 → L.getD i 0 = magicL.getD i 0 := fun i hi => by
    have := mag_back hm
    rw [this, List.getD_eq_getElem?_getD, List.getElem?_append_left (by exact hi), List.getD_eq_getElem?_getD]
  have key : ∀ d i, q - i = d → i ≤ q → magE L' i = some (q, 5) := by
    intro d
    induction d with
    | zero =>
      intro i hd hi
      obtain rfl : i = q := by omega
      rw [magE_eq, if_pos hq, if_neg (by omega), if_pos (by rw [← hg i hq]; exact hb)]
    | succ d ih =>
      intro i hd hi
      rw [magE_eq, if_pos (by omega), if_neg (by omega), if_neg (by rw [h i (by omega), hg i (by omega)]; simp)]
      exact ih (i + 1) (by omega) (by omega)
  exact key q 0 rfl (Nat.zero_le _)
theorem unpack_mag {L : List Nat} {bs : List BankR} (h : unpackA L = .ok bs) : magE L 0 = none := by
  unfold unpackA at h
  cases h1 : magE L 0 with
  | some e => rw [h1] at h; cases h
  | none => rfl
/-- An image of which one bit is inverted. -/
def flipL (L : List Nat) (n : Nat) : List Nat := L.set (n / 8) (L.getD (n / 8) 0 ^^^ 2 ^ (n % 8))
theorem flip_fault {L : List Nat} (hL : BtB L) {n : Nat} (h : n / 8 < L.length) : Fault L (flipL L n) (n / 8 - n / 8 % 2) (n / 8 - n / 8 % 2, 11) where
  even := by omega
  same := fun a m hev ha hw => by
    have e : wordS (flipL L n) a = wordS L a := by unfold wordS flipL; rw [set_getD h, set_getD h, if_neg (by omega), if_neg (by omega)]
    have hlt : (flipL L n).length = L.length := List.length_set
    refine ⟨?_, e⟩
    unfold wordE at hw ⊢
    rw [hlt, e]; exact hw
  bad := fun m hw => by
    have hlt : (flipL L n).length = L.length := List.length_set
    obtain ⟨h1, h2, _⟩ := wordE_inv hw
    have b0 := btB hL (n / 8 - n / 8 % 2)
    have b1 := btB hL (n / 8 - n / 8 % 2 + 1)
    have hf : oddF (wordS (flipL L n) (n / 8 - n / 8 % 2)) 16 = false := by
      have hxl := xor_lt (btB hL (n / 8)) (Nat.mod_lt n (by decide : 0 < 8))
      unfold wordS at h2 ⊢
      unfold flipL
      rw [odd_bytes _ _ b1] at h2
      rw [set_getD h, set_getD h]
      have hcase : n / 8 % 2 = 0 ∨ n / 8 % 2 = 1 := by omega
      rcases hcase with hc | hc
      · rw [hc, Nat.sub_zero] at h2 b1 ⊢
        rw [if_pos rfl, if_neg (by omega), odd_bytes _ _ b1, odd_flip, if_pos (Nat.mod_lt n (by decide))]
        revert h2
        cases oddF (L.getD (n / 8 + 1) 0) 8 <;> cases oddF (L.getD (n / 8) 0) 8 <;> decide
      · have e : n / 8 - n / 8 % 2 + 1 = n / 8 := by omega
        rw [e] at h2 ⊢
        rw [if_neg (by omega), if_pos rfl, odd_bytes _ _ hxl, odd_flip, if_pos (Nat.mod_lt n (by decide))]
        revert h2
        cases oddF (L.getD (n / 8) 0) 8 <;> cases oddF (L.getD (n / 8 - n / 8 % 2) 0) 8 <;> decide
    unfold wordE
    rw [hlt, if_neg (by omega), if_pos hf]
theorem unpack_flip {L : List Nat} (hL : BtB L) {bs : List BankR} (h : unpackA L = .ok bs) {n : Nat} (hn : n / 8 < L.length) : ∃ p, unpackA (flipL L n) = .error (p, if n < 32 then 5 else 11) := by
  have hm := unpack_mag h
  have hlt : (flipL L n).length = L.length := List.length_set
  by_cases h4 : n < 32
  · rw [if_pos h4]
    have := mag_bad (L' := flipL L n) (q := n / 8) (by omega) hm hlt (fun i hi => by unfold flipL; rw [set_getD hn, if_neg (by omega)]) (by unfold flipL; rw [set_getD hn, if_pos rfl]; exact xor_ne _ _)
    refine ⟨n / 8, ?_⟩
    unfold unpackA
    rw [this]
  · rw [if_neg h4]
    have hc : magE (flipL L n) 0 = none := by
      rw [mag_congr hlt fun i hi => by unfold flipL; rw [set_getD hn, if_neg (by omega)]]; exact hm
    exact ⟨_, unpack_fault (flip_fault hL hn) hc (by omega) (by omega) h⟩
theorem flip_lt {L : List Nat} (hL : BtB L) (n : Nat) : BtB (flipL L n) := by
  refine ⟨by unfold flipL; rw [List.length_set]; exact hL.1, fun x hx => ?_⟩
  unfold flipL at hx
  rcases List.mem_or_eq_of_mem_set hx with hx | rfl
  · exact hL.2 x hx
  · exact xor_lt (btB hL _) (Nat.mod_lt n (by decide))
end Go.Proofs.Ytioccpodnkllfaa

namespace Go.Proofs.Ytioccpodnkllfaa
open Go Go.AM
attribute [local irreducible] AWP CallK PureCall SubS HeapCall HeapCallP HeapCallK
set_option maxHeartbeats 4000000 in
theorem f11 (l : List BankR) (h : BsB l) (n : Nat) (hn : n < 4294967296) : PureCall Try.prog 11 [.pv (banksP l), u32 n] (bb true) := by
  obtain ⟨hB, hL1, hL2⟩ := packB_some l
  have hu := unpack_some l
  refine PureCall.body tab_ok (by kernel_rfl) Try.func11 rfl rfl rfl ?_
  refine awp_piece tab_ok mixed ?_
  conv => whnf
  repeat (first | ((with_reducible first | apply ga | apply gb | apply gc | apply gd | apply ge | apply gf | apply gg | apply gh | apply gi | apply gj); conv => whnf) | (refine ⟨⟨rfl, rfl, nle rfl, nle rfl⟩, ?_⟩; conv => whnf) | (refine AD.plain rfl ?_; conv => whnf) | fail)
  refine awp_pieceX tab_ok mixed (α := Nat) (fun g => mkSt 71 [(1, u32 n), (5, .row 2200 g 1 0 (packB (someL l)).length), (6, i64 0)] [(2200, rowA 5 1 bcell 0 g (packB (someL l)))]) (fun _ => True) (fun K hK => ?_) ?_
  · conv => whnf
    repeat (first | ((with_reducible first | apply ga | apply gb | apply gc | apply gd | apply ge | apply gf | apply gg | apply gh | apply gi | apply gj); conv => whnf) | (refine ⟨⟨rfl, rfl, nle rfl, nle rfl⟩, ?_⟩; conv => whnf) | (refine AD.plain rfl ?_; conv => whnf) | fail)
    refine CallK.drop [] (f29 l h) ⟨.same, trivial⟩ ?_
    conv => whnf
    repeat (first | ((with_reducible first | apply ga | apply gb | apply gc | apply gd | apply ge | apply gf | apply gg | apply gh | apply gi | apply gj); conv => whnf) | (refine ⟨⟨rfl, rfl, nle rfl, nle rfl⟩, ?_⟩; conv => whnf) | (refine AD.plain rfl ?_; conv => whnf) | fail)
    refine CallK.heap (f25h (someL l) (someL_bs l) (by have := someL_len l; omega) (someL_pack l)) [] [] rfl rfl ⟨.same, trivial⟩ trivial 2000 rfl ?_
    rintro _ _ ⟨g, rfl, rfl⟩
    conv => whnf
    repeat (first | ((with_reducible first | apply ga | apply gb | apply gc | apply gd | apply ge | apply gf | apply gg | apply gh | apply gi | apply gj); conv => whnf) | (refine ⟨⟨rfl, rfl, nle rfl, nle rfl⟩, ?_⟩; conv => whnf) | (refine AD.plain rfl ?_; conv => whnf) | fail)
    exact hK _ g trivial (SubS.mkN [] [(2200, 2200)] rfl rfl rfl ⟨⟨_, rfl, .same⟩, ⟨_, rfl, .row _ _ _ _ _ _ _ _ _ rfl rfl rfl rfl⟩, ⟨_, rfl, .same⟩, trivial⟩ ⟨.inl ⟨_, _, rfl, rfl, rfl, .keepA⟩, trivial⟩)
  rintro g -
  obtain ⟨L, hL⟩ : ∃ L, L = packB (someL l) := ⟨_, rfl⟩
  rw [← hL] at hB hL1 hL2 hu ⊢
  obtain ⟨k, hk, hk2⟩ : ∃ k : Nat, (IntKind.i64.wrap (n : Int)).tmod (8 * (L.length : Int)) = (k : Int) ∧ k < 8 * L.length := by
    refine ⟨n % (8 * L.length), ?_, Nat.mod_lt _ (by omega)⟩
    rw [wi64 (by omega) (by omega), Int.tmod_eq_emod_of_nonneg (by omega)]
    rw [show 8 * (L.length : Int) = ((8 * L.length : Nat) : Int) by omega]
    exact (Int.natCast_emod _ _).symm
  obtain ⟨p, hp⟩ := unpack_flip hB hu (n := k) (by omega)
  have hF := flip_lt hB k
  have cf := f27 (flipL L k) hF
  rw [hp] at cf
  have ek1 : (k : Int).tdiv 8 = ((k / 8 : Nat) : Int) := by rw [Int.tdiv_eq_ediv_of_nonneg (by omega)]; omega
  have ek2 : (k : Int).tmod 8 = ((k % 8 : Nat) : Int) := by rw [Int.tmod_eq_emod_of_nonneg (by omega)]; omega
  have hbit : bitsOf .xor .u8 ((L.getD (0 + ((k : Int).tdiv 8).toNat) 0 : Nat) : Int) (IntKind.u8.wrap (1 * 2 ^ min ((k % 8 : Nat) : Int).toNat IntKind.u8.bits)) = ((L.getD (k / 8) 0 ^^^ 2 ^ (k % 8) : Nat) : Int) := by
    have h8 : k % 8 < 8 := Nat.mod_lt k (by decide)
    have hpw : 2 ^ (k % 8) < 256 := Nat.pow_lt_pow_right (a := 2) (n := 8) (by decide) h8
    rw [ek1, Int.toNat_natCast, Int.toNat_natCast, Nat.zero_add, Nat.min_eq_left (by show k % 8 ≤ 8; omega), Int.one_mul]
    have e2 : (2 : Int) ^ (k % 8) = ((2 ^ (k % 8) : Nat) : Int) := by simp
    have e3 : ((2 ^ (k % 8) : Nat) : Int) % 256 = ((2 ^ (k % 8) : Nat) : Int) := Int.emod_eq_of_lt (Int.natCast_nonneg _) (show ((2 ^ (k % 8) : Nat) : Int) < ((256 : Nat) : Int) from Int.ofNat_lt.mpr hpw)
    rw [e2, w8, e3]
    exact xor_nat (k := .u8) rfl (btB hB (k / 8)) hpw
  have hfl : L.set (0 + ((k / 8 : Nat) : Int).toNat) (L.getD (k / 8) 0 ^^^ 2 ^ (k % 8)) = flipL L k := by rw [Int.toNat_natCast, Nat.zero_add]; rfl
  refine awp_piece tab_ok mixed ?_
  conv => whnf
  repeat (first | ((with_reducible first | apply ga | apply gb | apply gc | apply gd | apply ge | apply gf | apply gg | apply gh | apply gi | apply gj); conv => whnf) | (refine ⟨⟨rfl, rfl, nle rfl, nle rfl⟩, ?_⟩; conv => whnf) | (refine AD.plain rfl ?_; conv => whnf) | fail)
  refine ⟨fun _ => ?_, fun h => absurd h (by simp)⟩
  conv => whnf
  repeat (first | ((with_reducible first | apply ga | apply gb | apply gc | apply gd | apply ge | apply gf | apply gg | apply gh | apply gi | apply gj); conv => whnf) | (refine ⟨⟨rfl, rfl, nle rfl, nle rfl⟩, ?_⟩; conv => whnf) | (refine AD.plain rfl ?_; conv => whnf) | fail)
  refine ⟨fun h => absurd h (by rw [beq_iff_eq]; omega), fun _ => ?_⟩
  conv => whnf
  repeat (first | ((with_reducible first | apply ga | apply gb | apply gc | apply gd | apply ge | apply gf | apply gg | apply gh | apply gi | apply gj); conv => whnf) | (refine ⟨⟨rfl, rfl, nle rfl, nle rfl⟩, ?_⟩; conv => whnf) | (refine AD.plain rfl ?_; conv => whnf) | fail)
  refine awp_piece tab_ok mixed ?_
  conv => whnf
  repeat (first | ((with_reducible first | apply ga | apply gb | apply gc | apply gd | apply ge | apply gf | apply gg | apply gh | apply gi | apply gj); conv => whnf) | (refine ⟨⟨rfl, rfl, nle rfl, nle rfl⟩, ?_⟩; conv => whnf) | (refine AD.plain rfl ?_; conv => whnf) | fail)
  refine ⟨⟨by unfold inI64; omega⟩, ?_⟩
  conv => whnf
  repeat (first | ((with_reducible first | apply ga | apply gb | apply gc | apply gd | apply ge | apply gf | apply gg | apply gh | apply gi | apply gj); conv => whnf) | (refine ⟨⟨rfl, rfl, nle rfl, nle rfl⟩, ?_⟩; conv => whnf) | (refine AD.plain rfl ?_; conv => whnf) | fail)
  refine ⟨⟨by omega⟩, ?_⟩
  conv => whnf
  repeat (first | ((with_reducible first | apply ga | apply gb | apply gc | apply gd | apply ge | apply gf | apply gg | apply gh | apply gi | apply gj); conv => whnf) | (refine ⟨⟨rfl, rfl, nle rfl, nle rfl⟩, ?_⟩; conv => whnf) | (refine AD.plain rfl ?_; conv => whnf) | fail)
  rw [hk]
  refine awp_pieceM tab_ok mixed (mkSt 71 [(5, .row 2200 g 1 0 L.length), (7, i64 k)] [(2200, rowA 5 1 bcell 0 g (L.set (0 + ((k / 8 : Nat) : Int).toNat) (L.getD (k / 8) 0 ^^^ 2 ^ (k % 8))))]) True (fun K hK => ex_drawn (by kernel_rfl) ?_) (fun _ => ?_)
  · repeat (first | ((with_reducible first | apply ga | apply gb | apply gc | apply gd | apply ge | apply gf | apply gg | apply gh | apply gi | apply gj); conv => whnf) | (refine ⟨⟨rfl, rfl, nle rfl, nle rfl⟩, ?_⟩; conv => whnf) | (refine AD.plain rfl ?_; conv => whnf) | (refine AD.on rfl rfl rfl ?_; conv => whnf) | (refine AD.off rfl rfl rfl ?_; conv => whnf) | fail)
    rw [ek1]
    refine ⟨⟨by decide, by unfold inI64; omega⟩, ?_⟩
    conv => whnf
    repeat (first | ((with_reducible first | apply ga | apply gb | apply gc | apply gd | apply ge | apply gf | apply gg | apply gh | apply gi | apply gj); conv => whnf) | (refine ⟨⟨rfl, rfl, nle rfl, nle rfl⟩, ?_⟩; conv => whnf) | (refine AD.plain rfl ?_; conv => whnf) | fail)
    repeat (first | ((with_reducible first | apply ga | apply gb | apply gc | apply gd | apply ge | apply gf | apply gg | apply gh | apply gi | apply gj); conv => whnf) | (refine ⟨⟨rfl, rfl, nle rfl, nle rfl⟩, ?_⟩; conv => whnf) | (refine AD.plain rfl ?_; conv => whnf) | (refine AD.on rfl rfl rfl ?_; conv => whnf) | (refine AD.off rfl rfl rfl ?_; conv => whnf) | fail)
    refine ⟨⟨by decide, by unfold inI64; omega⟩, ?_⟩
    conv => whnf
    repeat (first | ((with_reducible first | apply ga | apply gb | apply gc | apply gd | apply ge | apply gf | apply gg | apply gh | apply gi | apply gj); conv => whnf) | (refine ⟨⟨rfl, rfl, nle rfl, nle rfl⟩, ?_⟩; conv => whnf) | (refine AD.plain rfl ?_; conv => whnf) | fail)
    repeat (first | ((with_reducible first | apply ga | apply gb | apply gc | apply gd | apply ge | apply gf | apply gg | apply gh | apply gi | apply gj); conv => whnf) | (refine ⟨⟨rfl, rfl, nle rfl, nle rfl⟩, ?_⟩; conv => whnf) | (refine AD.plain rfl ?_; conv => whnf) | (refine AD.on rfl rfl rfl ?_; conv => whnf) | (refine AD.off rfl rfl rfl ?_; conv => whnf) | fail)
    refine ⟨⟨by omega, by omega, rfl⟩, ?_⟩
    conv => whnf
    repeat (first | ((with_reducible first | apply ga | apply gb | apply gc | apply gd | apply ge | apply gf | apply gg | apply gh | apply gi | apply gj); conv => whnf) | (refine ⟨⟨rfl, rfl, nle rfl, nle rfl⟩, ?_⟩; conv => whnf) | (refine AD.plain rfl ?_; conv => whnf) | fail)
    repeat (first | ((with_reducible first | apply ga | apply gb | apply gc | apply gd | apply ge | apply gf | apply gg | apply gh | apply gi | apply gj); conv => whnf) | (refine ⟨⟨rfl, rfl, nle rfl, nle rfl⟩, ?_⟩; conv => whnf) | (refine AD.plain rfl ?_; conv => whnf) | (refine AD.on rfl rfl rfl ?_; conv => whnf) | (refine AD.off rfl rfl rfl ?_; conv => whnf) | fail)
    refine ⟨⟨rfl, rfl, by show 0 + ((k / 8 : Nat) : Int).toNat < L.length; omega, nle rfl⟩, ?_⟩
    conv => whnf
    repeat (first | ((with_reducible first | apply ga | apply gb | apply gc | apply gd | apply ge | apply gf | apply gg | apply gh | apply gi | apply gj); conv => whnf) | (refine ⟨⟨rfl, rfl, nle rfl, nle rfl⟩, ?_⟩; conv => whnf) | (refine AD.plain rfl ?_; conv => whnf) | fail)
    repeat (first | ((with_reducible first | apply ga | apply gb | apply gc | apply gd | apply ge | apply gf | apply gg | apply gh | apply gi | apply gj); conv => whnf) | (refine ⟨⟨rfl, rfl, nle rfl, nle rfl⟩, ?_⟩; conv => whnf) | (refine AD.plain rfl ?_; conv => whnf) | (refine AD.on rfl rfl rfl ?_; conv => whnf) | (refine AD.off rfl rfl rfl ?_; conv => whnf) | fail)
    rw [ek2]
    refine ⟨⟨by decide⟩, ?_⟩
    conv => whnf
    repeat (first | ((with_reducible first | apply ga | apply gb | apply gc | apply gd | apply ge | apply gf | apply gg | apply gh | apply gi | apply gj); conv => whnf) | (refine ⟨⟨rfl, rfl, nle rfl, nle rfl⟩, ?_⟩; conv => whnf) | (refine AD.plain rfl ?_; conv => whnf) | fail)
    repeat (first | ((with_reducible first | apply ga | apply gb | apply gc | apply gd | apply ge | apply gf | apply gg | apply gh | apply gi | apply gj); conv => whnf) | (refine ⟨⟨rfl, rfl, nle rfl, nle rfl⟩, ?_⟩; conv => whnf) | (refine AD.plain rfl ?_; conv => whnf) | (refine AD.on rfl rfl rfl ?_; conv => whnf) | (refine AD.off rfl rfl rfl ?_; conv => whnf) | fail)
    refine ⟨⟨by omega⟩, ?_⟩
    conv => whnf
    repeat (first | ((with_reducible first | apply ga | apply gb | apply gc | apply gd | apply ge | apply gf | apply gg | apply gh | apply gi | apply gj); conv => whnf) | (refine ⟨⟨rfl, rfl, nle rfl, nle rfl⟩, ?_⟩; conv => whnf) | (refine AD.plain rfl ?_; conv => whnf) | fail)
    repeat (first | ((with_reducible first | apply ga | apply gb | apply gc | apply gd | apply ge | apply gf | apply gg | apply gh | apply gi | apply gj); conv => whnf) | (refine ⟨⟨rfl, rfl, nle rfl, nle rfl⟩, ?_⟩; conv => whnf) | (refine AD.plain rfl ?_; conv => whnf) | (refine AD.on rfl rfl rfl ?_; conv => whnf) | (refine AD.off rfl rfl rfl ?_; conv => whnf) | fail)
    refine ⟨⟨by omega, by omega, rfl⟩, ?_⟩
    conv => whnf
    repeat (first | ((with_reducible first | apply ga | apply gb | apply gc | apply gd | apply ge | apply gf | apply gg | apply gh | apply gi | apply gj); conv => whnf) | (refine ⟨⟨rfl, rfl, nle rfl, nle rfl⟩, ?_⟩; conv => whnf) | (refine AD.plain rfl ?_; conv => whnf) | fail)
    repeat (first | ((with_reducible first | apply ga | apply gb | apply gc | apply gd | apply ge | apply gf | apply gg | apply gh | apply gi | apply gj); conv => whnf) | (refine ⟨⟨rfl, rfl, nle rfl, nle rfl⟩, ?_⟩; conv => whnf) | (refine AD.plain rfl ?_; conv => whnf) | (refine AD.on rfl rfl rfl ?_; conv => whnf) | (refine AD.off rfl rfl rfl ?_; conv => whnf) | fail)
    refine ⟨⟨rfl, rfl, by show 0 + ((k / 8 : Nat) : Int).toNat < L.length; omega, nle rfl⟩, ?_⟩
    conv => whnf
    repeat (first | ((with_reducible first | apply ga | apply gb | apply gc | apply gd | apply ge | apply gf | apply gg | apply gh | apply gi | apply gj); conv => whnf) | (refine ⟨⟨rfl, rfl, nle rfl, nle rfl⟩, ?_⟩; conv => whnf) | (refine AD.plain rfl ?_; conv => whnf) | fail)
    repeat (first | ((with_reducible first | apply ga | apply gb | apply gc | apply gd | apply ge | apply gf | apply gg | apply gh | apply gi | apply gj); conv => whnf) | (refine ⟨⟨rfl, rfl, nle rfl, nle rfl⟩, ?_⟩; conv => whnf) | (refine AD.plain rfl ?_; conv => whnf) | (refine AD.on rfl rfl rfl ?_; conv => whnf) | (refine AD.off rfl rfl rfl ?_; conv => whnf) | fail)
    refine AD.nil ⟨by kernel_rfl, ?_⟩
    conv => whnf
    repeat (first | ((with_reducible first | apply ga | apply gb | apply gc | apply gd | apply ge | apply gf | apply gg | apply gh | apply gi | apply gj); conv => whnf) | (refine ⟨⟨rfl, rfl, nle rfl, nle rfl⟩, ?_⟩; conv => whnf) | (refine AD.plain rfl ?_; conv => whnf) | fail)
    refine hK _ trivial (SubS.mkN [] [(2200, 2200)] rfl rfl rfl ⟨⟨_, rfl, .row _ _ _ _ _ _ _ _ _ rfl rfl rfl rfl⟩, ⟨_, rfl, .same⟩, trivial⟩ ⟨.inl ⟨_, _, rfl, rfl, rfl, OLe.setB (gv := fun _ => .pv (.int .u8 (bitsOf .xor .u8 ((L.getD (0 + ((k : Int).tdiv 8).toNat) 0 : Nat) : Int) (IntKind.u8.wrap (1 * 2 ^ min ((k % 8 : Nat) : Int).toNat IntKind.u8.bits))))) rfl rfl rfl rfl rfl (VLe.int hbit) (by omega)⟩, trivial⟩)
  rw [hfl]
  have hfll : (flipL L k).length = L.length := List.length_set
  by_cases h32 : k < 32
  · rw [if_pos h32] at cf
    have cf : PureCall Try.prog 27 [.pv (bytesP (flipL L k))] (tupV [.pv (banksP []), i64 p, i64 5]) := cf
    refine awp_piece tab_ok mixed ?_
    conv => whnf
    repeat (first | ((with_reducible first | apply ga | apply gb | apply gc | apply gd | apply ge | apply gf | apply gg | apply gh | apply gi | apply gj); conv => whnf) | (refine ⟨⟨rfl, rfl, nle rfl, nle rfl⟩, ?_⟩; conv => whnf) | (refine AD.plain rfl ?_; conv => whnf) | fail)
    refine CallK.drop [2200] cf ⟨VLe.frzO (E := 5) (g := g) (L := flipL L k) rfl rfl .keepA hfll.symm, trivial⟩ ?_
    conv => whnf
    repeat (first | ((with_reducible first | apply ga | apply gb | apply gc | apply gd | apply ge | apply gf | apply gg | apply gh | apply gi | apply gj); conv => whnf) | (refine ⟨⟨rfl, rfl, nle rfl, nle rfl⟩, ?_⟩; conv => whnf) | (refine AD.plain rfl ?_; conv => whnf) | fail)
    refine awp_piece tab_ok mixed ?_
    conv => whnf
    repeat (first | ((with_reducible first | apply ga | apply gb | apply gc | apply gd | apply ge | apply gf | apply gg | apply gh | apply gi | apply gj); conv => whnf) | (refine ⟨⟨rfl, rfl, nle rfl, nle rfl⟩, ?_⟩; conv => whnf) | (refine AD.plain rfl ?_; conv => whnf) | fail)
    refine ⟨fun _ => ?_, fun h => absurd h (by simp; omega)⟩
    conv => whnf
    repeat (first | ((with_reducible first | apply ga | apply gb | apply gc | apply gd | apply ge | apply gf | apply gg | apply gh | apply gi | apply gj); conv => whnf) | (refine ⟨⟨rfl, rfl, nle rfl, nle rfl⟩, ?_⟩; conv => whnf) | (refine AD.plain rfl ?_; conv => whnf) | fail)
    refine ⟨fun _ => ?_, fun h => absurd h (by simp)⟩
    conv => whnf
    repeat (first | ((with_reducible first | apply ga | apply gb | apply gc | apply gd | apply ge | apply gf | apply gg | apply gh | apply gi | apply gj); conv => whnf) | (refine ⟨⟨rfl, rfl, nle rfl, nle rfl⟩, ?_⟩; conv => whnf) | (refine AD.plain rfl ?_; conv => whnf) | fail)
    refine ⟨fun _ => ?_, fun h => absurd h (by simp)⟩
    conv => whnf
    repeat (first | ((with_reducible first | apply ga | apply gb | apply gc | apply gd | apply ge | apply gf | apply gg | apply gh | apply gi | apply gj); conv => whnf) | (refine ⟨⟨rfl, rfl, nle rfl, nle rfl⟩, ?_⟩; conv => whnf) | (refine AD.plain rfl ?_; conv => whnf) | fail)
    refine CallK.flat [] f15 trivial rfl ?_
    conv => whnf
    repeat (first | ((with_reducible first | apply ga | apply gb | apply gc | apply gd | apply ge | apply gf | apply gg | apply gh | apply gi | apply gj); conv => whnf) | (refine ⟨⟨rfl, rfl, nle rfl, nle rfl⟩, ?_⟩; conv => whnf) | (refine AD.plain rfl ?_; conv => whnf) | fail)
    exact done_bool _ _ rfl rfl rfl
  · rw [if_neg h32] at cf
    have cf : PureCall Try.prog 27 [.pv (bytesP (flipL L k))] (tupV [.pv (banksP []), i64 p, i64 11]) := cf
    refine awp_piece tab_ok mixed ?_
    conv => whnf
    repeat (first | ((with_reducible first | apply ga | apply gb | apply gc | apply gd | apply ge | apply gf | apply gg | apply gh | apply gi | apply gj); conv => whnf) | (refine ⟨⟨rfl, rfl, nle rfl, nle rfl⟩, ?_⟩; conv => whnf) | (refine AD.plain rfl ?_; conv => whnf) | fail)
    refine CallK.drop [2200] cf ⟨VLe.frzO (E := 5) (g := g) (L := flipL L k) rfl rfl .keepA hfll.symm, trivial⟩ ?_
    conv => whnf
    repeat (first | ((with_reducible first | apply ga | apply gb | apply gc | apply gd | apply ge | apply gf | apply gg | apply gh | apply gi | apply gj); conv => whnf) | (refine ⟨⟨rfl, rfl, nle rfl, nle rfl⟩, ?_⟩; conv => whnf) | (refine AD.plain rfl ?_; conv => whnf) | fail)
    refine awp_piece tab_ok mixed ?_
    conv => whnf
    repeat (first | ((with_reducible first | apply ga | apply gb | apply gc | apply gd | apply ge | apply gf | apply gg | apply gh | apply gi | apply gj); conv => whnf) | (refine ⟨⟨rfl, rfl, nle rfl, nle rfl⟩, ?_⟩; conv => whnf) | (refine AD.plain rfl ?_; conv => whnf) | fail)
    refine ⟨fun h => absurd h (by simp; omega), fun _ => ?_⟩
    conv => whnf
    repeat (first | ((with_reducible first | apply ga | apply gb | apply gc | apply gd | apply ge | apply gf | apply gg | apply gh | apply gi | apply gj); conv => whnf) | (refine ⟨⟨rfl, rfl, nle rfl, nle rfl⟩, ?_⟩; conv => whnf) | (refine AD.plain rfl ?_; conv => whnf) | fail)
    refine awp_last tab_ok mixed ?_
    conv => whnf
    repeat (first | ((with_reducible first | apply ga | apply gb | apply gc | apply gd | apply ge | apply gf | apply gg | apply gh | apply gi | apply gj); conv => whnf) | (refine ⟨⟨rfl, rfl, nle rfl, nle rfl⟩, ?_⟩; conv => whnf) | (refine AD.plain rfl ?_; conv => whnf) | fail)
    refine ⟨fun _ => ?_, fun h => absurd h (by simp)⟩
    conv => whnf
    repeat (first | ((with_reducible first | apply ga | apply gb | apply gc | apply gd | apply ge | apply gf | apply gg | apply gh | apply gi | apply gj); conv => whnf) | (refine ⟨⟨rfl, rfl, nle rfl, nle rfl⟩, ?_⟩; conv => whnf) | (refine AD.plain rfl ?_; conv => whnf) | fail)
    refine ⟨fun _ => ?_, fun h => absurd h (by simp)⟩
    conv => whnf
    repeat (first | ((with_reducible first | apply ga | apply gb | apply gc | apply gd | apply ge | apply gf | apply gg | apply gh | apply gi | apply gj); conv => whnf) | (refine ⟨⟨rfl, rfl, nle rfl, nle rfl⟩, ?_⟩; conv => whnf) | (refine AD.plain rfl ?_; conv => whnf) | fail)
    refine CallK.flat [] f15 trivial rfl ?_
    conv => whnf
    repeat (first | ((with_reducible first | apply ga | apply gb | apply gc | apply gd | apply ge | apply gf | apply gg | apply gh | apply gi | apply gj); conv => whnf) | (refine ⟨⟨rfl, rfl, nle rfl, nle rfl⟩, ?_⟩; conv => whnf) | (refine AD.plain rfl ?_; conv => whnf) | fail)
    exact done_bool _ _ rfl rfl rfl
end Go.Proofs.Ytioccpodnkllfaa
