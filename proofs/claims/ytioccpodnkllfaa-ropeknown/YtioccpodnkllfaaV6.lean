/- Part of the proof: what the functions that the law calls compute (6). -/
import Derived.Test.YtioccpodnkllfaaV5
namespace Go.Proofs.Ytioccpodnkllfaa
open Go Go.AM
attribute [local irreducible] AWP CallK PureCall SubS HeapCall HeapCallP HeapCallK
def res (w : Nat) : Nat := lo w % 32767
def tot : List Nat → Nat
  | [] => 0
  | w :: ws => res w + tot ws
theorem res_add (a b : Nat) : res (add a b) = (res a + res b) % 32767 := by
  have h := add_lt a b
  have ha := lo_lt a
  have hb := lo_lt b
  have e : lo (add a b) = add a b := Nat.mod_eq_of_lt h
  unfold res
  rw [e]
  unfold add
  split <;> omega
theorem res_neg (w : Nat) : res (neg w) = (32767 - res w) % 32767 := by
  have hw := lo_lt w
  have e : lo (neg w) = neg w := Nat.mod_eq_of_lt (by unfold neg; omega)
  unfold res
  rw [e]
  unfold neg
  omega
theorem res_lt (w : Nat) : res w < 32767 := Nat.mod_lt _ (by decide)
theorem value_res (w : Nat) : value w = if 16383 < res w then (res w : Int) - 32767 else res w := by
  have hw := lo_lt w
  unfold value res
  split <;> split <;> omega
theorem value_iff (a b : Nat) : value a = value b ↔ res a = res b := by
  have := res_lt a
  have := res_lt b
  rw [value_res, value_res]
  split <;> split <;> omega
theorem res_sumF : ∀ (ws : List Nat) (s : Nat), res (sumF ws s) = (res s + tot ws) % 32767
  | [], s => by rw [sumF, tot, Nat.add_zero, Nat.mod_eq_of_lt (res_lt s)]
  | w :: ws, s => by rw [sumF, res_sumF ws, res_add, tot, Nat.mod_add_mod, Nat.add_assoc]
theorem res_sum (ws : List Nat) : res (sumW ws) = tot ws % 32767 := by
  unfold sumW
  rw [res_sumF, show res 0 = 0 from rfl, Nat.zero_add]
theorem tot_app : ∀ (a b : List Nat), tot (a ++ b) = tot a + tot b
  | [], b => (Nat.zero_add _).symm
  | w :: a, b => by rw [List.cons_append, tot, tot, tot_app a b, Nat.add_assoc]
theorem value_num {w : Nat} {n : Int} (h : 0 ≤ n) (h' : n ≤ 35) : value w = n ↔ (res w : Int) = n := by
  have := res_lt w
  rw [value_res]
  split <;> omega
theorem sealedB_iff (b : BankR) : sealedB b = true ↔ (0 ≤ b.num ∧ b.num ≤ 35) ∧ b.ws.length ≤ 1024 ∧ (∀ w ∈ b.ws, w ≤ 32767) ∧ (tot b.ws % 32767 : Nat) = b.num := by
  unfold sealedB numB lenB validW
  simp only [Bool.and_eq_true, decide_eq_true_eq, List.all_eq_true, beq_iff_eq]
  constructor
  · rintro ⟨h1, h2, h3, h4⟩
    rw [value_num h1.1 h1.2, res_sum] at h4
    exact ⟨h1, by omega, h3, h4⟩
  · rintro ⟨h1, h2, h3, h4⟩
    exact ⟨h1, by omega, h3, by rw [value_num h1.1 h1.2, res_sum]; exact h4⟩
/-- What Seal adds. -/
theorem res_last {b : BankR} (h : 0 ≤ b.num) (h' : b.num ≤ 35) : ((tot b.ws + res (lastW b)) % 32767 : Nat) = b.num := by
  have hs := res_sum b.ws
  have e : res (lastW b) = (res (ofW b.num) + (32767 - tot b.ws % 32767) % 32767) % 32767 := by unfold lastW; rw [res_add, res_neg, hs]
  have e2 : res (ofW b.num) = b.num.toNat := by unfold res ofW lo; rw [if_neg (by omega)]; omega
  rw [e, e2]
  omega
theorem lastW_lt (b : BankR) : lastW b < 32768 := add_lt _ _
theorem sealR_seal {b : BankR} (h : (sealR b).2 = 0) : sealR b = (⟨b.num, b.ws ++ [lastW b]⟩, 0) ∧ (0 ≤ b.num ∧ b.num ≤ 35) ∧ b.ws.length < 1024 ∧ validW b.ws = true := by
  unfold sealR at h ⊢
  split
  · rename_i h1; rw [if_pos h1] at h; exact absurd h (by decide)
  · rename_i h1
    rw [if_neg h1] at h
    split
    · rename_i h2; rw [if_pos h2] at h; exact absurd h (by decide)
    · rename_i h2
      rw [if_neg h2] at h
      split
      · rename_i h3; rw [if_pos h3] at h; exact absurd h (by decide)
      · rename_i h3
        exact ⟨rfl, num_in h1, by omega, by simpa using h3⟩
theorem sealed_with {b : BankR} (h : 0 ≤ b.num ∧ b.num ≤ 35) (hl : b.ws.length < 1024) (hv : validW b.ws = true) {w : Nat} (hw : w ≤ 32767) : sealedB ⟨b.num, b.ws ++ [w]⟩ = (value w == value (lastW b)) := by
  have hlast := res_last h.1 h.2
  have h1 := res_lt w
  have h2 := res_lt (lastW b)
  have key : sealedB ⟨b.num, b.ws ++ [w]⟩ = true ↔ value w = value (lastW b) := by
    rw [sealedB_iff, value_iff]
    dsimp only
    rw [tot_app, List.length_append, show tot [w] = res w from Nat.add_zero _]
    constructor
    · rintro ⟨-, -, -, h4⟩
      omega
    · intro e
      refine ⟨h, by show b.ws.length + 1 ≤ 1024; omega, fun y hy => ?_, by rw [e]; exact hlast⟩
      rcases List.mem_append.mp hy with hy | hy
      · unfold validW at hv
        exact of_decide_eq_true (List.all_eq_true.mp hv y hy)
      · rw [List.mem_singleton] at hy; subst hy; exact hw
  cases hc : sealedB ⟨b.num, b.ws ++ [w]⟩ with
  | true => rw [hc] at key; rw [key.mp rfl]; simp
  | false =>
    rw [hc] at key
    cases hd : value w == value (lastW b) with
    | false => rfl
    | true => exact absurd (key.mpr (by simpa using hd)) (by decide)
theorem sealed_seal {b : BankR} (h : (sealR b).2 = 0) : sealedB (sealR b).1 = true := by
  obtain ⟨e, h1, h2, h3⟩ := sealR_seal h
  rw [e]
  have := sealed_with (w := lastW b) h1 h2 h3 (by have := lastW_lt b; omega)
  rw [this]; simp
/- Words as bytes. -/
theorem odd_congr {a b : Nat} : ∀ {n : Nat}, (∀ i, i < n → a.testBit i = b.testBit i) → oddF a n = oddF b n
  | 0, _ => rfl
  | n + 1, h => by rw [oddF, oddF, odd_congr fun i hi => h i (by omega), h n (by omega)]
theorem lo_bit (s i : Nat) : (lo s).testBit i = (decide (i < 15) && s.testBit i) := by
  unfold lo
  rw [show (32768 : Nat) = 2 ^ 15 from rfl, Nat.testBit_mod_two_pow]
theorem odd_lo (s : Nat) : oddF (lo s) 16 = oddF s 15 := by
  rw [show oddF (lo s) 16 = (oddF (lo s) 15 != (lo s).testBit 15) from rfl, lo_bit, show (decide (15 < 15)) = false from rfl, Bool.false_and]
  rw [odd_congr (n := 15) (a := lo s) (b := s) fun i hi => by rw [lo_bit, decide_eq_true hi, Bool.true_and]]
  cases oddF s 15 <;> rfl
theorem hi_bit {x : Nat} (h : x < 32768) (i : Nat) (hi : i < 15) : (x + 32768).testBit i = x.testBit i := by
  rw [Nat.add_comm, show (32768 : Nat) = 2 ^ 15 from rfl]
  exact Nat.testBit_two_pow_add_gt hi x
theorem hi_top {x : Nat} (h : x < 32768) : (x + 32768).testBit 15 = true := by
  rw [Nat.add_comm, show (32768 : Nat) = 2 ^ 15 from rfl, Nat.testBit_two_pow_add_eq, Nat.testBit_lt_two_pow (by omega)]; rfl
theorem putW_odd (w : Nat) : oddF (putW w) 16 = true := by
  have hl := lo_lt w
  unfold putW
  split
  · assumption
  · rename_i h
    have h2 : oddF (lo w) 16 = false := by simpa using h
    rw [show oddF (lo w + 32768) 16 = (oddF (lo w + 32768) 15 != (lo w + 32768).testBit 15) from rfl, hi_top hl, odd_congr (n := 15) (b := lo w) fun i hi => hi_bit hl i hi]
    have h3 : (lo w).testBit 15 = false := Nat.testBit_lt_two_pow (by omega)
    rw [show oddF (lo w) 16 = (oddF (lo w) 15 != (lo w).testBit 15) from rfl, h3] at h2
    revert h2
    cases oddF (lo w) 15 <;> decide
theorem putW_lo (w : Nat) : lo (putW w) = lo w := by
  have hl := lo_lt w
  unfold putW
  split
  · exact lo_lo w
  · unfold lo at hl ⊢; omega
theorem putW_of {s : Nat} (h : s < 65536) (ho : oddF s 16 = true) : putW (lo s) = s := by
  have hl := lo_lt s
  unfold putW
  rw [lo_lo, odd_lo]
  rw [show oddF s 16 = (oddF s 15 != s.testBit 15) from rfl] at ho
  have hb : s.testBit 15 = decide (32768 ≤ s) := by
    rw [Nat.testBit_eq_decide_div_mod_eq]
    exact decide_eq_decide.mpr (by omega)
  rw [hb] at ho
  have e : lo s = if 32768 ≤ s then s - 32768 else s := by unfold lo; split <;> omega
  by_cases h1 : 32768 ≤ s
  · rw [decide_eq_true h1] at ho
    have h2 : oddF s 15 = false := by revert ho; cases oddF s 15 <;> decide
    rw [if_pos h1] at e
    rw [h2, if_neg (by decide), e]; omega
  · rw [decide_eq_false h1] at ho
    have h2 : oddF s 15 = true := by revert ho; cases oddF s 15 <;> decide
    rw [if_neg h1] at e
    rw [h2, if_pos rfl, e]
/- Places in a list. -/
theorem getD_drop' {L : List Nat} {a : Nat} {X R : List Nat} (h : L.drop a = X ++ R) (i : Nat) (hi : i < X.length) : L.getD (a + i) 0 = X.getD i 0 := by
  have e : (L.drop a).getD i 0 = (X ++ R).getD i 0 := by rw [h]
  rw [List.getD_eq_getElem?_getD, List.getElem?_drop, List.getD_eq_getElem?_getD, List.getElem?_append_left hi] at e
  rw [List.getD_eq_getElem?_getD, e, List.getD_eq_getElem?_getD]
theorem drop_app' {L : List Nat} {a : Nat} {X R : List Nat} (h : L.drop a = X ++ R) : L.drop (a + X.length) = R := by
  rw [← List.drop_drop, h, List.drop_left]
theorem drop_len {L : List Nat} {a : Nat} {X R : List Nat} (h : L.drop a = X ++ R) (hx : 0 < X.length) : a + X.length ≤ L.length := by
  have := congrArg List.length h
  rw [List.length_drop, List.length_append] at this
  omega
theorem drop_two {L : List Nat} {a : Nat} (h : a + 2 ≤ L.length) : L.drop a = [L.getD a 0, L.getD (a + 1) 0] ++ L.drop (a + 2) := by
  have h1 := List.drop_eq_getElem_cons (l := L) (i := a) (by omega)
  have h2 := List.drop_eq_getElem_cons (l := L) (i := a + 1) (by omega)
  rw [h1, h2, List.getD_eq_getElem?_getD, List.getD_eq_getElem?_getD, List.getElem?_eq_getElem (by omega), List.getElem?_eq_getElem (by omega)]
  rfl
/- Writing, then reading. -/
theorem word_fwd {L : List Nat} {a n m : Nat} {R : List Nat} (h : L.drop a = two n ++ R) (hn : n < 32768) (hm : n ≤ m) : wordE L a m = none ∧ lo (wordS L a) = n ∧ L.drop (a + 2) = R := by
  have h0 := getD_drop' h 0 (show 0 < 2 by decide)
  have h1 := getD_drop' h 1 (show 1 < 2 by decide)
  have hl := drop_len h (show 0 < 2 by decide)
  have hl2 : (two n).length = 2 := rfl
  have e0 : (two n).getD 0 0 = putW n / 256 := rfl
  have e1 : (two n).getD 1 0 = putW n % 256 := rfl
  rw [e0, Nat.add_zero] at h0
  rw [e1] at h1
  have hs : wordS L a = putW n := by unfold wordS; rw [h0, h1]; omega
  have hlo : lo (wordS L a) = n := by rw [hs, putW_lo]; exact Nat.mod_eq_of_lt hn
  refine ⟨?_, hlo, drop_app' h⟩
  unfold wordE
  rw [if_neg (by omega), if_neg (by rw [hs, putW_odd]; decide), hlo, if_neg (by omega)]
theorem words_fwd {L : List Nat} : ∀ (vs : List Nat) (a : Nat) (acc R : List Nat), L.drop a = twos vs ++ R → (∀ v ∈ vs, v ≤ 32767) → wordsA L a vs.length acc = .ok (acc ++ vs)
  | [], a, acc, R, _, _ => by rw [List.append_nil]; rfl
  | v :: vs, a, acc, R, h, hv => by
    have h2 : L.drop a = two v ++ (twos vs ++ R) := by rw [h, ← List.append_assoc]; rfl
    have hv0 := hv v (List.mem_cons_self ..)
    obtain ⟨g1, g2, g3⟩ := word_fwd (m := 32767) h2 (by omega) hv0
    rw [List.length_cons, wordsA, g1]
    dsimp only
    rw [g2, words_fwd vs (a + 2) _ R g3 fun y hy => hv y (List.mem_cons_of_mem _ hy), List.append_assoc]
    rfl
theorem bankBy_len (b : BankR) : (bankBy b).length = 4 + 2 * b.ws.length := by unfold bankBy; rw [List.length_append, List.length_append, twos_len]; simp [two]
theorem checkE_iff {b : BankR} {last : Int} : checkE b last = 0 ↔ sealedB b = true ∧ last < b.num := by
  unfold checkE
  constructor
  · intro h
    split at h
    · cases h
    · split at h
      · cases h
      · split at h
        · cases h
        · split at h
          · cases h
          · split at h
            · cases h
            · rename_i h2 _ _ h5
              exact ⟨by simpa using h5, by omega⟩
  · rintro ⟨h, h2⟩
    have h3 := h
    unfold sealedB at h3
    simp only [Bool.and_eq_true] at h3
    rw [h3.1, h3.2.1, h3.2.2.1, h]
    rw [if_neg (by decide), if_neg (by omega), if_neg (by decide), if_neg (by decide), if_neg (by decide)]
theorem packE_cons {b : BankR} {bs : List BankR} {last : Int} : packE (b :: bs) last = 0 ↔ (sealedB b = true ∧ last < b.num) ∧ packE bs b.num = 0 := by
  rw [packE, ← checkE_iff]
  constructor
  · intro h
    split at h
    · rename_i h1; exact absurd h h1
    · rename_i h1; exact ⟨Classical.not_not.mp h1, h⟩
  · rintro ⟨h1, h2⟩
    rw [if_neg (by rw [h1]; decide)]; exact h2
theorem bank_fwd {L : List Nat} {a : Nat} {b : BankR} {last : Int} {R : List Nat} (h : L.drop a = bankBy b ++ R) (hs : sealedB b = true) (hl : last < b.num) : bankA L a last = .ok (b, a + (bankBy b).length) ∧ L.drop (a + (bankBy b).length) = R := by
  refine ⟨?_, drop_app' h⟩
  obtain ⟨h1, h2, h3, _⟩ := (sealedB_iff b).mp hs
  have hb : L.drop a = two b.num.toNat ++ (two b.ws.length ++ (twos b.ws ++ R)) := by rw [h]; unfold bankBy; simp only [List.append_assoc]
  obtain ⟨g1, g2, g3⟩ := word_fwd (m := 35) hb (by omega) (by omega)
  obtain ⟨q1, q2, q3⟩ := word_fwd (m := 1024) g3 (by omega) (by omega)
  have hw := words_fwd b.ws (a + 2 + 2) [] R q3 h3
  have e : ((b.num.toNat : Nat) : Int) = b.num := by omega
  unfold bankA
  rw [g1]
  dsimp only
  rw [g2, e, if_neg (by omega), q1]
  dsimp only
  rw [q2, show a + 4 = a + 2 + 2 from rfl, hw]
  dsimp only
  rw [List.nil_append, show (⟨b.num, b.ws⟩ : BankR) = b from rfl, hs, if_neg (by decide), bankBy_len]
  rw [show a + 2 + 2 + 2 * b.ws.length = a + (4 + 2 * b.ws.length) by omega]
theorem banks_fwd {L : List Nat} : ∀ (bs : List BankR) (a : Nat) (last : Int) (acc : List BankR) (R : List Nat), L.drop a = bs.flatMap bankBy ++ R → packE bs last = 0 → banksA L a bs.length last acc = .ok (acc ++ bs, a + (bs.flatMap bankBy).length)
  | [], a, last, acc, R, _, _ => by rw [List.append_nil]; rfl
  | b :: bs, a, last, acc, R, h, hp => by
    obtain ⟨⟨h1, h2⟩, h3⟩ := packE_cons.mp hp
    have hd : L.drop a = bankBy b ++ (bs.flatMap bankBy ++ R) := by rw [h, List.flatMap_cons, List.append_assoc]
    obtain ⟨g1, g2⟩ := bank_fwd hd h1 h2
    rw [List.length_cons, banksA, g1]
    dsimp only
    rw [banks_fwd bs _ _ _ R g2 h3, List.append_assoc, List.flatMap_cons, List.length_append, Nat.add_assoc]
    rfl
theorem mag_fwd {L R : List Nat} (h : L = magicL ++ R) : magE L 0 = none := by
  have hl : L.length = 4 + R.length := by rw [h, List.length_append]; rfl
  have hg : ∀ i, i < 4 → L.getD i 0 = magicL.getD i 0 := fun i hi => by
    rw [h, List.getD_eq_getElem?_getD, List.getElem?_append_left (by exact hi), List.getD_eq_getElem?_getD]
  have step : ∀ i, i < 4 → magE L i = magE L (i + 1) := fun i hi => by
    rw [magE_eq, if_pos hi, if_neg (by omega), if_neg (by rw [hg i hi]; simp)]
  rw [step 0 (by decide), step 1 (by decide), step 2 (by decide), step 3 (by decide), magE_eq, if_neg (by decide)]
theorem unpack_fwd {l : List BankR} (hl : l.length ≤ 36) (h : packE l (-1) = 0) (M : List Nat) : unpackA (packB l ++ M) = if 0 < M.length then .error ((packB l).length, 5) else .ok l := by
  have hd4 : (packB l ++ M).drop 4 = two l.length ++ (l.flatMap bankBy ++ M) := by
    unfold packB
    simp only [List.append_assoc]
    exact List.drop_left (l₁ := magicL)
  obtain ⟨g1, g2, g3⟩ := word_fwd (m := 36) hd4 (by omega) hl
  have hb := banks_fwd l 6 (-1) [] M g3 h
  have hlen : (packB l).length = 6 + (l.flatMap bankBy).length := by unfold packB; rw [List.length_append, List.length_append]; rfl
  unfold unpackA
  rw [mag_fwd (L := packB l ++ M) (R := two l.length ++ (l.flatMap bankBy ++ M)) (by unfold packB; simp only [List.append_assoc]), g1]
  dsimp only
  rw [g2, hb]
  dsimp only
  rw [List.length_append, hlen]
  by_cases hM : 0 < M.length
  · rw [if_pos (by omega), if_pos hM]
  · rw [if_neg (by omega), if_neg hM]; rfl
end Go.Proofs.Ytioccpodnkllfaa

namespace Go.Proofs.Ytioccpodnkllfaa
open Go Go.AM
attribute [local irreducible] AWP CallK PureCall SubS HeapCall HeapCallP HeapCallK
theorem wordE_inv {L : List Nat} {a m : Nat} (h : wordE L a m = none) : a + 2 ≤ L.length ∧ oddF (wordS L a) 16 = true ∧ lo (wordS L a) ≤ m := by
  unfold wordE at h
  split at h
  · cases h
  · split at h
    · cases h
    · rename_i h1 h2
      split at h
      · cases h
      · exact ⟨by omega, by simpa using h2, by omega⟩
theorem word_back {L : List Nat} (hL : BtB L) {a m : Nat} (h : wordE L a m = none) : L.drop a = two (lo (wordS L a)) ++ L.drop (a + 2) := by
  obtain ⟨h1, h2, _⟩ := wordE_inv h
  have hb0 := btB hL a
  have hb1 := btB hL (a + 1)
  have e := putW_of (s := wordS L a) (by unfold wordS; omega) h2
  rw [drop_two h1]
  unfold two
  rw [e]
  have e0 : wordS L a / 256 = L.getD a 0 := by unfold wordS; omega
  have e1 : wordS L a % 256 = L.getD (a + 1) 0 := by unfold wordS; omega
  rw [e0, e1]
theorem words_back {L : List Nat} (hL : BtB L) : ∀ (n a : Nat) (acc ws : List Nat), wordsA L a n acc = .ok ws → ∃ vs, ws = acc ++ vs ∧ vs.length = n ∧ L.drop a = twos vs ++ L.drop (a + 2 * n)
  | 0, a, acc, ws, h => by
    rw [wordsA] at h
    obtain rfl : acc = ws := Except.ok.inj h
    exact ⟨[], (List.append_nil _).symm, rfl, rfl⟩
  | n + 1, a, acc, ws, h => by
    rw [wordsA] at h
    cases hw : wordE L a 32767 with
    | some e => rw [hw] at h; cases h
    | none =>
      rw [hw] at h
      obtain ⟨vs, e1, e2, e3⟩ := words_back hL n (a + 2) _ ws h
      refine ⟨lo (wordS L a) :: vs, by rw [e1, List.append_assoc]; rfl, by rw [List.length_cons, e2], ?_⟩
      rw [word_back hL hw, e3, show a + 2 * (n + 1) = a + 2 + 2 * n by omega]
      show _ = (two _ ++ twos vs) ++ _
      rw [List.append_assoc]
theorem bankA_inv {L : List Nat} {a : Nat} {last : Int} {b : BankR} {a' : Nat} (h : bankA L a last = .ok (b, a')) :
    wordE L a 35 = none ∧ b.num = lo (wordS L a) ∧ last < b.num ∧ wordE L (a + 2) 1024 = none ∧ wordsA L (a + 4) (lo (wordS L (a + 2))) [] = .ok b.ws ∧ sealedB b = true ∧ a' = a + 4 + 2 * lo (wordS L (a + 2)) := by
  unfold bankA at h
  cases h1 : wordE L a 35 with
  | some e => rw [h1] at h; cases h
  | none =>
    rw [h1] at h
    dsimp only at h
    split at h
    · cases h
    · rename_i hlast
      cases h2 : wordE L (a + 2) 1024 with
      | some e => rw [h2] at h; cases h
      | none =>
        rw [h2] at h
        dsimp only at h
        cases h3 : wordsA L (a + 4) (lo (wordS L (a + 2))) [] with
        | error e => rw [h3] at h; cases h
        | ok ws =>
          rw [h3] at h
          dsimp only at h
          split at h
          · cases h
          · rename_i hs
            have e := Except.ok.inj h
            injection e with e1 e2
            subst e1; subst e2
            exact ⟨rfl, rfl, by dsimp only; omega, rfl, rfl, by simpa using hs, rfl⟩
theorem bank_back {L : List Nat} (hL : BtB L) {a : Nat} {last : Int} {b : BankR} {a' : Nat} (h : bankA L a last = .ok (b, a')) : L.drop a = bankBy b ++ L.drop a' ∧ sealedB b = true ∧ last < b.num ∧ a' = a + (bankBy b).length := by
  obtain ⟨h1, h2, h3, h4, h5, h6, h7⟩ := bankA_inv h
  obtain ⟨vs, e1, e2, e3⟩ := words_back hL _ _ _ _ h5
  rw [List.nil_append] at e1
  subst e1
  have hl : b.ws.length = lo (wordS L (a + 2)) := e2
  refine ⟨?_, h6, h3, by rw [h7, bankBy_len, hl]; omega⟩
  unfold bankBy
  rw [h2, Int.toNat_natCast, word_back hL h1, word_back hL h4, hl, h7, List.append_assoc, List.append_assoc, show a + 4 = a + 2 + 2 from rfl] at *
  rw [← e3]
theorem banks_back {L : List Nat} (hL : BtB L) : ∀ (n a : Nat) (last : Int) (acc bs : List BankR) (a' : Nat), banksA L a n last acc = .ok (bs, a') → ∃ cs, bs = acc ++ cs ∧ cs.length = n ∧ L.drop a = cs.flatMap bankBy ++ L.drop a' ∧ packE cs last = 0
  | 0, a, last, acc, bs, a', h => by
    rw [banksA] at h
    have e := Except.ok.inj h
    injection e with e1 e2
    subst e1; subst e2
    exact ⟨[], (List.append_nil _).symm, rfl, rfl, rfl⟩
  | n + 1, a, last, acc, bs, a', h => by
    rw [banksA] at h
    cases hk : bankA L a last with
    | error e => rw [hk] at h; cases h
    | ok x =>
      obtain ⟨b, a1⟩ := x
      rw [hk] at h
      obtain ⟨h1, h2, h3, _⟩ := bank_back hL hk
      obtain ⟨cs, e1, e2, e3, e4⟩ := banks_back hL n a1 b.num _ bs a' h
      exact ⟨b :: cs, by rw [e1, List.append_assoc]; rfl, by rw [List.length_cons, e2], by rw [h1, e3, List.flatMap_cons, List.append_assoc], packE_cons.mpr ⟨⟨h2, h3⟩, e4⟩⟩
theorem mag_back {L : List Nat} (h : magE L 0 = none) : L = magicL ++ L.drop 4 := by
  have hl := magE_none h
  have step : ∀ i, i < 4 → magE L i = none → L.getD i 0 = magicL.getD i 0 ∧ magE L (i + 1) = none := fun i hi h => by
    rw [magE_eq, if_pos hi, if_neg (by omega)] at h
    split at h
    · cases h
    · rename_i h1; exact ⟨Classical.not_not.mp h1, h⟩
  obtain ⟨a0, h⟩ := step 0 (by decide) h
  obtain ⟨a1, h⟩ := step 1 (by decide) h
  obtain ⟨a2, h⟩ := step 2 (by decide) h
  obtain ⟨a3, _⟩ := step 3 (by decide) h
  have d := drop_two (L := L) (a := 0) (by omega)
  have d2 := drop_two (L := L) (a := 2) (by omega)
  rw [List.drop_zero] at d
  rw [d2] at d
  refine d.trans ?_
  rw [show (0 + 1 : Nat) = 1 from rfl, show (2 + 1 : Nat) = 3 from rfl, a0, a1, a2, a3]
  rfl
/-- What Unpack takes is what Pack writes. -/
theorem unpack_back {L : List Nat} (hL : BtB L) {bs : List BankR} (h : unpackA L = .ok bs) : L = packB bs ∧ packE bs (-1) = 0 := by
  unfold unpackA at h
  cases h1 : magE L 0 with
  | some e => rw [h1] at h; cases h
  | none =>
    rw [h1] at h
    dsimp only at h
    cases h2 : wordE L 4 36 with
    | some e => rw [h2] at h; cases h
    | none =>
      rw [h2] at h
      dsimp only at h
      cases h3 : banksA L 6 (lo (wordS L 4)) (-1) [] with
      | error e => rw [h3] at h; cases h
      | ok x =>
        obtain ⟨cs, a⟩ := x
        rw [h3] at h
        dsimp only at h
        obtain ⟨ds, e1, e2, e3, e4⟩ := banks_back hL _ _ _ _ _ _ h3
        rw [List.nil_append] at e1
        subst e1
        split at h
        · cases h
        · rename_i ha
          obtain rfl : cs = bs := Except.ok.inj h
          refine ⟨?_, e4⟩
          have hm := mag_back h1
          rw [word_back hL h2, ← e2, show 4 + 2 = 6 from rfl, e3, List.drop_eq_nil_of_le (by omega), List.append_nil] at hm
          rw [hm]
          unfold packB
          rw [List.append_assoc]
/- Where an error stands. -/
theorem wordE_err {L : List Nat} {a m p e : Nat} (h : wordE L a m = some (p, e)) : p ≤ L.length ∧ e ≠ 0 := by
  unfold wordE at h
  split at h
  · have := Option.some.inj h; injection this with e1 e2; subst e1; subst e2; exact ⟨Nat.le_refl _, by decide⟩
  · rename_i h1
    split at h
    · have := Option.some.inj h; injection this with e1 e2; subst e1; subst e2; exact ⟨by omega, by decide⟩
    · split at h
      · have := Option.some.inj h; injection this with e1 e2; subst e1; subst e2; exact ⟨by omega, by decide⟩
      · cases h
theorem wordsA_err {L : List Nat} {p e : Nat} : ∀ (n a : Nat) (acc : List Nat), wordsA L a n acc = .error (p, e) → p ≤ L.length ∧ e ≠ 0
  | 0, a, acc, h => by cases h
  | n + 1, a, acc, h => by
    rw [wordsA] at h
    cases hw : wordE L a 32767 with
    | some x => rw [hw] at h; dsimp only at h; obtain rfl : x = (p, e) := Except.error.inj h; exact wordE_err hw
    | none => rw [hw] at h; exact wordsA_err n _ _ h
theorem bankA_err {L : List Nat} {a : Nat} {last : Int} {p e : Nat} (h : bankA L a last = .error (p, e)) : p ≤ L.length ∧ e ≠ 0 := by
  unfold bankA at h
  cases h1 : wordE L a 35 with
  | some x => rw [h1] at h; dsimp only at h; obtain rfl : x = (p, e) := Except.error.inj h; exact wordE_err h1
  | none =>
    rw [h1] at h
    dsimp only at h
    have ha := (wordE_inv h1).1
    split at h
    · have := Except.error.inj h; injection this with e1 e2; subst e1; subst e2; exact ⟨by omega, by decide⟩
    · cases h2 : wordE L (a + 2) 1024 with
      | some x => rw [h2] at h; dsimp only at h; obtain rfl : x = (p, e) := Except.error.inj h; exact wordE_err h2
      | none =>
        rw [h2] at h
        dsimp only at h
        cases h3 : wordsA L (a + 4) (lo (wordS L (a + 2))) [] with
        | error x => rw [h3] at h; dsimp only at h; obtain rfl : x = (p, e) := Except.error.inj h; exact wordsA_err _ _ _ h3
        | ok ws =>
          rw [h3] at h
          dsimp only at h
          split at h
          · have := Except.error.inj h; injection this with e1 e2; subst e1; subst e2; exact ⟨by omega, by decide⟩
          · cases h
theorem banksA_err {L : List Nat} {p e : Nat} : ∀ (n a : Nat) (last : Int) (acc : List BankR), banksA L a n last acc = .error (p, e) → p ≤ L.length ∧ e ≠ 0
  | 0, a, last, acc, h => by cases h
  | n + 1, a, last, acc, h => by
    rw [banksA] at h
    cases hk : bankA L a last with
    | error x => rw [hk] at h; dsimp only at h; obtain rfl : x = (p, e) := Except.error.inj h; exact bankA_err hk
    | ok x => rw [hk] at h; exact banksA_err n _ _ _ h
theorem magE_err {L : List Nat} {p e : Nat} (h : magE L 0 = some (p, e)) : p ≤ L.length ∧ e ≠ 0 := by
  have key : ∀ d i, 4 - i = d → i ≤ L.length → magE L i = some (p, e) → p ≤ L.length ∧ e ≠ 0 := by
    intro d
    induction d with
    | zero => intro i hd hi h; rw [magE_eq, if_neg (by omega)] at h; cases h
    | succ d ih =>
      intro i hd hi h
      rw [magE_eq, if_pos (by omega)] at h
      split at h
      · have := Option.some.inj h; injection this with e1 e2; subst e1; subst e2; exact ⟨Nat.le_refl _, by decide⟩
      · rename_i h1
        split at h
        · have := Option.some.inj h; injection this with e1 e2; subst e1; subst e2; exact ⟨hi, by decide⟩
        · exact ih (i + 1) (by omega) (by omega) h
  exact key 4 0 rfl (Nat.zero_le _) h
theorem unpackA_err {L : List Nat} {p e : Nat} (h : unpackA L = .error (p, e)) : p ≤ L.length ∧ e ≠ 0 := by
  unfold unpackA at h
  cases h1 : magE L 0 with
  | some x => rw [h1] at h; dsimp only at h; obtain rfl : x = (p, e) := Except.error.inj h; exact magE_err h1
  | none =>
    rw [h1] at h
    dsimp only at h
    cases h2 : wordE L 4 36 with
    | some x => rw [h2] at h; dsimp only at h; obtain rfl : x = (p, e) := Except.error.inj h; exact wordE_err h2
    | none =>
      rw [h2] at h
      dsimp only at h
      cases h3 : banksA L 6 (lo (wordS L 4)) (-1) [] with
      | error x => rw [h3] at h; dsimp only at h; obtain rfl : x = (p, e) := Except.error.inj h; exact banksA_err _ _ _ _ h3
      | ok x =>
        obtain ⟨cs, a⟩ := x
        rw [h3] at h
        dsimp only at h
        split at h
        · rename_i ha
          have := Except.error.inj h; injection this with e1 e2; subst e1; subst e2; exact ⟨by omega, by decide⟩
        · cases h
/- The first fault: up to p both images read alike, at p the second one does not. -/
structure Fault (L L' : List Nat) (p : Nat) (e : Nat × Nat) : Prop where
  even : p % 2 = 0
  same : ∀ a m, a % 2 = 0 → a < p → wordE L a m = none → wordE L' a m = none ∧ wordS L' a = wordS L a
  bad : ∀ m, wordE L p m = none → wordE L' p m = some e
theorem words_fault {L L' : List Nat} {p : Nat} {e : Nat × Nat} (F : Fault L L' p e) : ∀ (n a : Nat) (acc ws : List Nat), a % 2 = 0 → a ≤ p → wordsA L a n acc = .ok ws →
    wordsA L' a n acc = if p < a + 2 * n then .error e else .ok ws
  | 0, a, acc, ws, _, ha, h => by
    rw [wordsA] at h ⊢
    rw [if_neg (by omega)]; exact h
  | n + 1, a, acc, ws, hev, ha, h => by
    rw [wordsA] at h ⊢
    cases hw : wordE L a 32767 with
    | some x => rw [hw] at h; cases h
    | none =>
      rw [hw] at h
      dsimp only at h
      by_cases hap : a < p
      · obtain ⟨g1, g2⟩ := F.same a _ hev hap hw
        have := F.even
        rw [g1]
        dsimp only
        rw [g2, words_fault F n (a + 2) _ ws (by omega) (by omega) h, show a + 2 + 2 * n = a + 2 * (n + 1) by omega]
      · obtain rfl : a = p := by omega
        rw [F.bad _ hw, if_pos (by omega)]
theorem bank_fault {L L' : List Nat} {p : Nat} {e : Nat × Nat} (F : Fault L L' p e) {a : Nat} {last : Int} {b : BankR} {a' : Nat} (hev : a % 2 = 0) (ha : a ≤ p) (h : bankA L a last = .ok (b, a')) :
    bankA L' a last = if p < a' then .error e else .ok (b, a') := by
  obtain ⟨h1, h2, h3, h4, h5, h6, h7⟩ := bankA_inv h
  have hpe := F.even
  unfold bankA
  by_cases hp : a < p
  · obtain ⟨g1, g2⟩ := F.same a _ hev hp h1
    rw [g1]
    dsimp only
    rw [g2, ← h2, if_neg (by omega)]
    by_cases hp2 : a + 2 < p
    · obtain ⟨q1, q2⟩ := F.same (a + 2) _ (by omega) hp2 h4
      rw [q1]
      dsimp only
      rw [q2, words_fault F _ (a + 4) [] b.ws (by omega) (by omega) h5]
      by_cases hp3 : p < a'
      · rw [if_pos (by omega), if_pos hp3]
      · rw [if_neg (by omega), if_neg hp3]
        dsimp only
        rw [show (⟨b.num, b.ws⟩ : BankR) = b from rfl, h6, if_neg (by decide), h7]
    · obtain rfl : p = a + 2 := by omega
      rw [F.bad _ h4, if_pos (by omega)]
  · obtain rfl : p = a := by omega
    rw [F.bad _ h1]
    dsimp only
    rw [if_pos (by omega)]
theorem banks_fault {L L' : List Nat} {p : Nat} {e : Nat × Nat} (F : Fault L L' p e) : ∀ (n a : Nat) (last : Int) (acc bs : List BankR) (a' : Nat), a % 2 = 0 → a ≤ p → banksA L a n last acc = .ok (bs, a') →
    banksA L' a n last acc = if p < a' then .error e else .ok (bs, a')
  | 0, a, last, acc, bs, a', hev, ha, h => by
    rw [banksA] at h ⊢
    have e1 := Except.ok.inj h
    injection e1 with e1 e2
    subst e1; subst e2
    rw [if_neg (by omega)]
  | n + 1, a, last, acc, bs, a', hev, ha, h => by
    rw [banksA] at h ⊢
    cases hk : bankA L a last with
    | error x => rw [hk] at h; cases h
    | ok x =>
      obtain ⟨b, a1⟩ := x
      rw [hk] at h
      dsimp only at h
      have h7 := (bankA_inv hk).2.2.2.2.2.2
      have hmono : ∀ (n a : Nat) (last : Int) (acc bs : List BankR) (a' : Nat), banksA L a n last acc = .ok (bs, a') → a ≤ a' := by
        intro n
        induction n with
        | zero =>
          intro a last acc bs a' h
          rw [banksA] at h
          have e1 := Except.ok.inj h
          injection e1 with _ e2
          omega
        | succ n ih =>
          intro a last acc bs a' h
          rw [banksA] at h
          cases hk : bankA L a last with
          | error x => rw [hk] at h; cases h
          | ok x =>
            obtain ⟨b, a1⟩ := x
            rw [hk] at h
            have := ih _ _ _ _ _ h
            have := (bankA_inv hk).2.2.2.2.2.2
            omega
      have hm := hmono _ _ _ _ _ _ h
      rw [bank_fault F hev ha hk]
      by_cases hp : p < a1
      · rw [if_pos hp, if_pos (by omega)]
      · rw [if_neg hp]
        exact banks_fault F n a1 _ _ bs a' (by omega) (by omega) h
theorem unpack_fault {L L' : List Nat} {p : Nat} {e : Nat × Nat} (F : Fault L L' p e) {bs : List BankR} (hm : magE L' 0 = none) (h4 : 4 ≤ p) (hp : p < L.length) (h : unpackA L = .ok bs) : unpackA L' = .error e := by
  unfold unpackA at h ⊢
  cases h1 : magE L 0 with
  | some e => rw [h1] at h; cases h
  | none =>
    rw [h1] at h
    rw [hm]
    dsimp only at h ⊢
    cases h2 : wordE L 4 36 with
    | some e => rw [h2] at h; cases h
    | none =>
      rw [h2] at h
      dsimp only at h
      by_cases hp4 : 4 < p
      · obtain ⟨g1, g2⟩ := F.same 4 _ (by decide) hp4 h2
        rw [g1]
        dsimp only
        rw [g2]
        cases h3 : banksA L 6 (lo (wordS L 4)) (-1) [] with
        | error e => rw [h3] at h; cases h
        | ok x =>
          obtain ⟨cs, a⟩ := x
          rw [h3] at h
          dsimp only at h
          have hev := F.even
          rw [banks_fault F _ _ _ _ _ _ (by decide) (by omega) h3]
          split at h
          · cases h
          · rw [if_pos (by omega)]
      · obtain rfl : p = 4 := by omega
        rw [F.bad _ h2]
/- A proper prefix. -/
theorem take_getD {L : List Nat} {n i : Nat} (h : i < n) : (L.take n).getD i 0 = L.getD i 0 := by
  rw [List.getD_eq_getElem?_getD, List.getD_eq_getElem?_getD, List.getElem?_take_of_lt h]
theorem cut_fault {L : List Nat} {n : Nat} (h : n < L.length) : Fault L (L.take n) (n - n % 2) (n, 9) where
  even := by omega
  same := fun a m hev ha hw => by
    have e : wordS (L.take n) a = wordS L a := by unfold wordS; rw [take_getD (by omega), take_getD (by omega)]
    have hlt : (L.take n).length = n := by rw [List.length_take]; omega
    refine ⟨?_, e⟩
    unfold wordE at hw ⊢
    rw [if_neg (by omega)] at hw ⊢
    rw [e]; exact hw
  bad := fun m _ => by
    have hlt : (L.take n).length = n := by rw [List.length_take]; omega
    unfold wordE
    rw [hlt, if_pos (by omega)]
theorem mag_cut {L : List Nat} (h : magE L 0 = none) (n : Nat) (hn : n < L.length) : magE (L.take n) 0 = if n < 4 then some (n, 9) else none := by
  have hlt : (L.take n).length = n := by rw [List.length_take]; omega
  have key : ∀ d i, 4 - i = d → i ≤ n → magE L i = none → magE (L.take n) i = if n < 4 then some (n, 9) else none := by
    intro d
    induction d with
    | zero =>
      intro i hd hi _
      rw [magE_eq, if_neg (by omega), if_neg (by omega)]
    | succ d ih =>
      intro i hd hi h
      rw [magE_eq, if_pos (by omega)] at h ⊢
      rw [hlt]
      by_cases hin : n ≤ i
      · rw [if_pos hin, if_pos (by omega)]
      · rw [if_neg hin, take_getD (by omega)]
        split at h
        · cases h
        · split at h
          · cases h
          · rename_i h2
            rw [if_neg h2]
            exact ih (i + 1) (by omega) (by omega) h
  exact key 4 0 rfl (Nat.zero_le _) h
theorem unpack_cut {L : List Nat} {bs : List BankR} (h : unpackA L = .ok bs) {n : Nat} (hn : n < L.length) : unpackA (L.take n) = .error (n, 9) := by
  have hm : magE L 0 = none := by
    unfold unpackA at h
    cases h1 : magE L 0 with
    | some e => rw [h1] at h; cases h
    | none => rfl
  have hc := mag_cut hm n hn
  by_cases h4 : n < 4
  · rw [if_pos h4] at hc
    unfold unpackA
    rw [hc]
  · rw [if_neg h4] at hc
    exact unpack_fault (cut_fault hn) hc (by omega) (by omega) h
/- The banks that can be sealed. -/
theorem pickB_some {n : Nat} {b c : BankR} (h : pickB n b = some c) : c.num = n ∧ sealedB c = true ∧ 0 < c.ws.length ∧ c.ws.length ≤ 201 := by
  unfold pickB at h
  split at h
  · cases h
  · rename_i h1
    split at h
    · rename_i h2
      obtain ⟨e, _, _⟩ := sealR_seal h2
      have hs := sealed_seal h2
      obtain rfl := Option.some.inj h
      rw [e] at hs ⊢
      refine ⟨by dsimp only; omega, hs, by simp, by simp; omega⟩
    · cases h
theorem someI_some {l : List BankR} {n i : Nat} {c : BankR} (h : someI l n i = some c) : c.num = n ∧ sealedB c = true ∧ 0 < c.ws.length ∧ c.ws.length ≤ 201 := by
  unfold someI at h
  obtain ⟨b, _, hb⟩ := List.exists_of_findSome?_eq_some h
  exact pickB_some hb
theorem packE_map {g : Nat → Option BankR} (hg : ∀ n c, g n = some c → c.num = n ∧ sealedB c = true) : ∀ (k s : Nat) (last : Int), last < s → packE ((List.range' s k).filterMap g) last = 0
  | 0, s, last, _ => rfl
  | k + 1, s, last, h => by
    rw [List.range'_succ, List.filterMap_cons]
    cases hc : g s with
    | none => exact packE_map hg k (s + 1) last (by omega)
    | some c =>
      obtain ⟨h1, h2⟩ := hg s c hc
      exact packE_cons.mpr ⟨⟨h2, by omega⟩, packE_map hg k (s + 1) _ (by omega)⟩
theorem someL_pack (l : List BankR) : packE (someL l) (-1) = 0 := by
  unfold someL
  rw [List.range_eq_range']
  exact packE_map (fun n c h => ⟨(someI_some h).1, (someI_some h).2.1⟩) 36 0 (-1) (by decide)
theorem someL_len (l : List BankR) : (someL l).length ≤ 36 := by
  unfold someL
  refine Nat.le_trans (List.length_filterMap_le _ _) ?_
  rw [List.length_range]; exact Nat.le_refl _
theorem someL_mem {l : List BankR} {c : BankR} (h : c ∈ someL l) : (0 ≤ c.num ∧ c.num ≤ 35) ∧ sealedB c = true ∧ 0 < c.ws.length ∧ c.ws.length ≤ 201 := by
  unfold someL at h
  obtain ⟨n, hn, hc⟩ := List.mem_filterMap.mp h
  have h1 := someI_some hc
  have h2 := List.mem_range.mp hn
  exact ⟨by omega, h1.2⟩
theorem sealed_bank {b : BankR} (h : sealedB b = true) : BankB b := by
  obtain ⟨h1, h2, h3, _⟩ := (sealedB_iff b).mp h
  exact ⟨by unfold inI64; omega, by omega, fun w hw => by have := h3 w hw; omega⟩
theorem someL_bs (l : List BankR) : BsB (someL l) := ⟨by have := someL_len l; omega, fun b hb => sealed_bank (someL_mem hb).2.1⟩
theorem two_lt (n : Nat) : ∀ x ∈ two n, x < 256 := by
  have := putW_lt n
  unfold two
  intro x hx
  rcases List.mem_cons.mp hx with rfl | hx
  · omega
  · rw [List.mem_singleton] at hx; subst hx; omega
theorem packB_lt (l : List BankR) : ∀ x ∈ packB l, x < 256 := by
  have ht : ∀ ws, ∀ x ∈ twos ws, x < 256 := fun ws x hx => by
    obtain ⟨w, _, hw⟩ := List.mem_flatMap.mp hx
    exact two_lt w x hw
  intro x hx
  unfold packB at hx
  rcases List.mem_append.mp hx with hx | hx
  · rcases List.mem_append.mp hx with hx | hx
    · exact (by decide : ∀ x ∈ magicL, x < 256) x hx
    · exact two_lt _ x hx
  · obtain ⟨b, _, hb⟩ := List.mem_flatMap.mp hx
    unfold bankBy at hb
    rcases List.mem_append.mp hb with hb | hb
    · rcases List.mem_append.mp hb with hb | hb
      · exact two_lt _ x hb
      · exact two_lt _ x hb
    · exact ht _ x hb
theorem packB_some (l : List BankR) : BtB (packB (someL l)) ∧ (packB (someL l)).length ≤ 73878 ∧ 6 ≤ (packB (someL l)).length := by
  have hok : ∀ b ∈ someL l, 0 ≤ b.num ∧ b.num ≤ 35 ∧ b.ws.length ≤ 1024 := packE_ok _ _ (someL_pack l)
  have hlen := packB_len hok (i := (someL l).length) (Nat.le_refl _)
  rw [List.take_length] at hlen
  have hn := someL_len l
  have e : (packB (someL l)).length = 6 + ((someL l).flatMap bankBy).length := by unfold packB; rw [List.length_append, List.length_append]; rfl
  exact ⟨⟨by omega, packB_lt _⟩, by omega, by omega⟩
theorem unpack_some (l : List BankR) : unpackA (packB (someL l)) = .ok (someL l) := by
  have := unpack_fwd (someL_len l) (someL_pack l) []
  rw [List.append_nil] at this
  exact this
end Go.Proofs.Ytioccpodnkllfaa

namespace Go.Proofs.Ytioccpodnkllfaa
open Go Go.AM
attribute [local irreducible] AWP CallK PureCall SubS HeapCall HeapCallP HeapCallK
theorem c25 (l : List BankR) : PureCall Try.prog 25 [.pv (banksP (someL l))] (tupV [.pv (bytesP (packB (someL l))), i64 0]) := by
  have h := f25 (someL l) (someL_bs l) (by have := someL_len l; omega)
  rw [show packR (someL l) = (packB (someL l), 0) by unfold packR; rw [someL_pack, if_neg (by decide)]] at h
  exact h
theorem c27 (l : List BankR) : PureCall Try.prog 27 [.pv (bytesP (packB (someL l)))] (tupV [.pv (banksP (someL l)), i64 0, i64 0]) := by
  have h := f27 (packB (someL l)) (packB_some l).1
  rw [unpack_some] at h
  exact h
theorem f7 (l : List BankR) (h : BsB l) : PureCall Try.prog 7 [.pv (banksP l)] (bb true) := by
  refine PureCall.run tab_ok mixed (by kernel_rfl) Try.func7 rfl rfl rfl ?_
  conv => whnf
  repeat (first | ((with_reducible first | apply ga | apply gb | apply gc | apply gd | apply ge | apply gf | apply gg | apply gh | apply gi | apply gj); conv => whnf) | (refine ⟨⟨rfl, rfl, nle rfl, nle rfl⟩, ?_⟩; conv => whnf) | fail)
  refine CallK.drop [] (f29 l h) ⟨.same, trivial⟩ ?_
  conv => whnf
  repeat (first | ((with_reducible first | apply ga | apply gb | apply gc | apply gd | apply ge | apply gf | apply gg | apply gh | apply gi | apply gj); conv => whnf) | (refine ⟨⟨rfl, rfl, nle rfl, nle rfl⟩, ?_⟩; conv => whnf) | fail)
  refine CallK.drop [] (c25 l) ⟨.same, trivial⟩ ?_
  conv => whnf
  repeat (first | ((with_reducible first | apply ga | apply gb | apply gc | apply gd | apply ge | apply gf | apply gg | apply gh | apply gi | apply gj); conv => whnf) | (refine ⟨⟨rfl, rfl, nle rfl, nle rfl⟩, ?_⟩; conv => whnf) | fail)
  refine CallK.drop [] (c27 l) ⟨.same, trivial⟩ ?_
  conv => whnf
  repeat (first | ((with_reducible first | apply ga | apply gb | apply gc | apply gd | apply ge | apply gf | apply gg | apply gh | apply gi | apply gj); conv => whnf) | (refine ⟨⟨rfl, rfl, nle rfl, nle rfl⟩, ?_⟩; conv => whnf) | fail)
  refine ⟨fun _ => ?_, fun h => absurd h (by simp)⟩
  conv => whnf
  repeat (first | ((with_reducible first | apply ga | apply gb | apply gc | apply gd | apply ge | apply gf | apply gg | apply gh | apply gi | apply gj); conv => whnf) | (refine ⟨⟨rfl, rfl, nle rfl, nle rfl⟩, ?_⟩; conv => whnf) | fail)
  refine ⟨fun _ => ?_, fun h => absurd h (by simp)⟩
  conv => whnf
  repeat (first | ((with_reducible first | apply ga | apply gb | apply gc | apply gd | apply ge | apply gf | apply gg | apply gh | apply gi | apply gj); conv => whnf) | (refine ⟨⟨rfl, rfl, nle rfl, nle rfl⟩, ?_⟩; conv => whnf) | fail)
  refine ⟨fun _ => ?_, fun h => absurd h (by simp)⟩
  conv => whnf
  repeat (first | ((with_reducible first | apply ga | apply gb | apply gc | apply gd | apply ge | apply gf | apply gg | apply gh | apply gi | apply gj); conv => whnf) | (refine ⟨⟨rfl, rfl, nle rfl, nle rfl⟩, ?_⟩; conv => whnf) | fail)
  refine CallK.flat [] (f18 (someL l) (someL_bs l)) ⟨.same, .same, trivial⟩ rfl ?_
  conv => whnf
  repeat (first | ((with_reducible first | apply ga | apply gb | apply gc | apply gd | apply ge | apply gf | apply gg | apply gh | apply gi | apply gj); conv => whnf) | (refine ⟨⟨rfl, rfl, nle rfl, nle rfl⟩, ?_⟩; conv => whnf) | fail)
  refine CallK.flat [] f15 trivial rfl ?_
  conv => whnf
  repeat (first | ((with_reducible first | apply ga | apply gb | apply gc | apply gd | apply ge | apply gf | apply gg | apply gh | apply gi | apply gj); conv => whnf) | (refine ⟨⟨rfl, rfl, nle rfl, nle rfl⟩, ?_⟩; conv => whnf) | fail)
  exact done_bool _ _ rfl rfl rfl
theorem f8 (L : List Nat) (h : BtB L) : PureCall Try.prog 8 [.pv (bytesP L)] (bb true) := by
  have hl := h.1
  cases hu : unpackA L with
  | error x =>
    obtain ⟨p, e⟩ := x
    obtain ⟨h1, h2⟩ := unpackA_err hu
    have c := f27 L h
    rw [hu] at c
    have c : PureCall Try.prog 27 [.pv (bytesP L)] (tupV [.pv (banksP []), i64 p, i64 e]) := c
    refine PureCall.run tab_ok mixed (by kernel_rfl) Try.func8 rfl rfl rfl ?_
    conv => whnf
    repeat (first | ((with_reducible first | apply ga | apply gb | apply gc | apply gd | apply ge | apply gf | apply gg | apply gh | apply gi | apply gj); conv => whnf) | (refine ⟨⟨rfl, rfl, nle rfl, nle rfl⟩, ?_⟩; conv => whnf) | fail)
    refine CallK.drop [] c ⟨.same, trivial⟩ ?_
    conv => whnf
    repeat (first | ((with_reducible first | apply ga | apply gb | apply gc | apply gd | apply ge | apply gf | apply gg | apply gh | apply gi | apply gj); conv => whnf) | (refine ⟨⟨rfl, rfl, nle rfl, nle rfl⟩, ?_⟩; conv => whnf) | fail)
    refine ⟨fun _ => ?_, fun h => absurd h (by simp; omega)⟩
    conv => whnf
    repeat (first | ((with_reducible first | apply ga | apply gb | apply gc | apply gd | apply ge | apply gf | apply gg | apply gh | apply gi | apply gj); conv => whnf) | (refine ⟨⟨rfl, rfl, nle rfl, nle rfl⟩, ?_⟩; conv => whnf) | fail)
    refine ⟨fun _ => ?_, fun h => absurd h (by simp)⟩
    conv => whnf
    repeat (first | ((with_reducible first | apply ga | apply gb | apply gc | apply gd | apply ge | apply gf | apply gg | apply gh | apply gi | apply gj); conv => whnf) | (refine ⟨⟨rfl, rfl, nle rfl, nle rfl⟩, ?_⟩; conv => whnf) | fail)
    refine ⟨fun _ => ?_, fun h => absurd h (by simp; omega)⟩
    conv => whnf
    repeat (first | ((with_reducible first | apply ga | apply gb | apply gc | apply gd | apply ge | apply gf | apply gg | apply gh | apply gi | apply gj); conv => whnf) | (refine ⟨⟨rfl, rfl, nle rfl, nle rfl⟩, ?_⟩; conv => whnf) | fail)
    refine ⟨fun _ => ?_, fun h => absurd h (by simp)⟩
    conv => whnf
    repeat (first | ((with_reducible first | apply ga | apply gb | apply gc | apply gd | apply ge | apply gf | apply gg | apply gh | apply gi | apply gj); conv => whnf) | (refine ⟨⟨rfl, rfl, nle rfl, nle rfl⟩, ?_⟩; conv => whnf) | fail)
    refine CallK.flat [] f15 trivial rfl ?_
    conv => whnf
    repeat (first | ((with_reducible first | apply ga | apply gb | apply gc | apply gd | apply ge | apply gf | apply gg | apply gh | apply gi | apply gj); conv => whnf) | (refine ⟨⟨rfl, rfl, nle rfl, nle rfl⟩, ?_⟩; conv => whnf) | fail)
    exact done_bool _ _ rfl rfl rfl
  | ok bs =>
    obtain ⟨h1, h2⟩ := unpack_back h hu
    have hB := unpackA_bs hu
    have c := f27 L h
    rw [hu] at c
    have c : PureCall Try.prog 27 [.pv (bytesP L)] (tupV [.pv (banksP bs), i64 0, i64 0]) := c
    have d := f25 bs hB (by have := (unpackA_ok hu).1; omega)
    rw [show packR bs = (L, 0) by unfold packR; rw [h2, if_neg (by decide), ← h1]] at d
    have d : PureCall Try.prog 25 [.pv (banksP bs)] (tupV [.pv (bytesP L), i64 0]) := d
    refine PureCall.run tab_ok mixed (by kernel_rfl) Try.func8 rfl rfl rfl ?_
    conv => whnf
    repeat (first | ((with_reducible first | apply ga | apply gb | apply gc | apply gd | apply ge | apply gf | apply gg | apply gh | apply gi | apply gj); conv => whnf) | (refine ⟨⟨rfl, rfl, nle rfl, nle rfl⟩, ?_⟩; conv => whnf) | fail)
    refine CallK.drop [] c ⟨.same, trivial⟩ ?_
    conv => whnf
    repeat (first | ((with_reducible first | apply ga | apply gb | apply gc | apply gd | apply ge | apply gf | apply gg | apply gh | apply gi | apply gj); conv => whnf) | (refine ⟨⟨rfl, rfl, nle rfl, nle rfl⟩, ?_⟩; conv => whnf) | fail)
    refine ⟨fun h => absurd h (by simp), fun _ => ?_⟩
    conv => whnf
    repeat (first | ((with_reducible first | apply ga | apply gb | apply gc | apply gd | apply ge | apply gf | apply gg | apply gh | apply gi | apply gj); conv => whnf) | (refine ⟨⟨rfl, rfl, nle rfl, nle rfl⟩, ?_⟩; conv => whnf) | fail)
    refine CallK.drop [] d ⟨.same, trivial⟩ ?_
    conv => whnf
    repeat (first | ((with_reducible first | apply ga | apply gb | apply gc | apply gd | apply ge | apply gf | apply gg | apply gh | apply gi | apply gj); conv => whnf) | (refine ⟨⟨rfl, rfl, nle rfl, nle rfl⟩, ?_⟩; conv => whnf) | fail)
    refine ⟨fun _ => ?_, fun h => absurd h (by simp)⟩
    conv => whnf
    repeat (first | ((with_reducible first | apply ga | apply gb | apply gc | apply gd | apply ge | apply gf | apply gg | apply gh | apply gi | apply gj); conv => whnf) | (refine ⟨⟨rfl, rfl, nle rfl, nle rfl⟩, ?_⟩; conv => whnf) | fail)
    refine ⟨⟨rfl, fun _ _ => rfl⟩, ?_⟩
    conv => whnf
    repeat (first | ((with_reducible first | apply ga | apply gb | apply gc | apply gd | apply ge | apply gf | apply gg | apply gh | apply gi | apply gj); conv => whnf) | (refine ⟨⟨rfl, rfl, nle rfl, nle rfl⟩, ?_⟩; conv => whnf) | fail)
    refine ⟨⟨rfl, fun _ _ => rfl⟩, ?_⟩
    conv => whnf
    repeat (first | ((with_reducible first | apply ga | apply gb | apply gc | apply gd | apply ge | apply gf | apply gg | apply gh | apply gi | apply gj); conv => whnf) | (refine ⟨⟨rfl, rfl, nle rfl, nle rfl⟩, ?_⟩; conv => whnf) | fail)
    refine ⟨fun _ => ?_, fun h => absurd h (by simp)⟩
    conv => whnf
    repeat (first | ((with_reducible first | apply ga | apply gb | apply gc | apply gd | apply ge | apply gf | apply gg | apply gh | apply gi | apply gj); conv => whnf) | (refine ⟨⟨rfl, rfl, nle rfl, nle rfl⟩, ?_⟩; conv => whnf) | fail)
    refine CallK.flat [] f15 trivial rfl ?_
    conv => whnf
    repeat (first | ((with_reducible first | apply ga | apply gb | apply gc | apply gd | apply ge | apply gf | apply gg | apply gh | apply gi | apply gj); conv => whnf) | (refine ⟨⟨rfl, rfl, nle rfl, nle rfl⟩, ?_⟩; conv => whnf) | fail)
    exact done_bool _ _ rfl rfl rfl
end Go.Proofs.Ytioccpodnkllfaa
