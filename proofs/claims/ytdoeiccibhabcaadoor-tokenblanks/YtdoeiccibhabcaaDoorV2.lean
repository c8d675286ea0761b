/- Part of the proof: what the functions that the law calls compute (2). -/
import Derived.Test.YtdoeiccibhabcaaDoorV1
import Derived.Lib.ItoaLen
import Derived.KernelRfl
namespace Go.Proofs.YtdoeiccibhabcaaDoor
open Go Go.AM
attribute [local irreducible] AWP CallK PureCall SubS HeapCall
def cutT (c : UInt8) (s : List UInt8) : AV := tupV [st (bef c s), st (aft c s), bb (s.contains c)]
theorem f54 (s : List UInt8) (hs : B62 s) (c : UInt8) : PureCall Tryd.prog 54 [st s, st [c]] (cutT c s) := by
  unfold B62 at hs
  refine PureCall.run tab_ok mixed (by kernel_rfl) Tryd.func54 rfl rfl rfl ?_
  conv => whnf
  repeat (first | ((with_reducible first | apply ga | apply gb | apply gc | apply gd | apply ge | apply gf | apply gg | apply gh | apply gi | apply gj); conv => whnf) | (refine ⟨⟨rfl, rfl, nle rfl, nle rfl⟩, ?_⟩; conv => whnf) | fail)
  refine CallK.flat [] (f60 s c) ⟨.same, .same, trivial⟩ rfl ?_
  conv => whnf
  repeat (first | ((with_reducible first | apply ga | apply gb | apply gc | apply gd | apply ge | apply gf | apply gg | apply gh | apply gi | apply gj); conv => whnf) | (refine ⟨⟨rfl, rfl, nle rfl, nle rfl⟩, ?_⟩; conv => whnf) | fail)
  refine ⟨fun hi => ?_, fun hi => ?_⟩ <;> replace hi := nm hi <;> (try simp only [Int.toNat_zero] at hi) <;> (try simp only [Int.toNat_one] at hi)
  · conv => whnf
    repeat (first | ((with_reducible first | apply ga | apply gb | apply gc | apply gd | apply ge | apply gf | apply gg | apply gh | apply gi | apply gj); conv => whnf) | (refine ⟨⟨rfl, rfl, nle rfl, nle rfl⟩, ?_⟩; conv => whnf) | fail)
    rcases index_bef c s with ⟨h1, _⟩ | ⟨h1, h2, h3, h4, h5⟩
    · omega
    · refine ⟨⟨by omega, by omega⟩, ?_⟩
      conv => whnf
      repeat (first | ((with_reducible first | apply ga | apply gb | apply gc | apply gd | apply ge | apply gf | apply gg | apply gh | apply gi | apply gj); conv => whnf) | (refine ⟨⟨rfl, rfl, nle rfl, nle rfl⟩, ?_⟩; conv => whnf) | fail)
      refine ⟨⟨by unfold inI64; simp only [List.length_singleton]; omega⟩, ?_⟩
      conv => whnf
      repeat (first | ((with_reducible first | apply ga | apply gb | apply gc | apply gd | apply ge | apply gf | apply gg | apply gh | apply gi | apply gj); conv => whnf) | (refine ⟨⟨rfl, rfl, nle rfl, nle rfl⟩, ?_⟩; conv => whnf) | fail)
      refine ⟨⟨by simp only [List.length_singleton]; omega, by simp only [List.length_singleton]; omega⟩, ?_⟩
      conv => whnf
      repeat (first | ((with_reducible first | apply ga | apply gb | apply gc | apply gd | apply ge | apply gf | apply gg | apply gh | apply gi | apply gj); conv => whnf) | (refine ⟨⟨rfl, rfl, nle rfl, nle rfl⟩, ?_⟩; conv => whnf) | fail)
      refine ⟨rfl, ?_⟩
      conv => whnf
      repeat (first | ((with_reducible first | apply ga | apply gb | apply gc | apply gd | apply ge | apply gf | apply gg | apply gh | apply gi | apply gj); conv => whnf) | (refine ⟨⟨rfl, rfl, nle rfl, nle rfl⟩, ?_⟩; conv => whnf) | fail)
      have e1 : (Lib.indexByte s c).toNat = (bef c s).length := by omega
      have e2 : (Lib.indexByte s c + (([c] : List UInt8).length : Int)).toNat = (bef c s).length + 1 := by simp only [List.length_singleton]; omega
      have hE : cutT c s = tupV [st (s.take (Lib.indexByte s c).toNat), st (s.drop (Lib.indexByte s c + (([c] : List UInt8).length : Int)).toNat), bb true] := by
        unfold cutT; rw [e1, e2, h3, h4, h5]
      rw [hE]
      exact done_tup [_, _, _] [] rfl ⟨.same, .same, .same, trivial⟩
  · conv => whnf
    repeat (first | ((with_reducible first | apply ga | apply gb | apply gc | apply gd | apply ge | apply gf | apply gg | apply gh | apply gi | apply gj); conv => whnf) | (refine ⟨⟨rfl, rfl, nle rfl, nle rfl⟩, ?_⟩; conv => whnf) | fail)
    rcases index_bef c s with ⟨h1, h2, h3, h4⟩ | ⟨h1, _⟩
    · have hE : cutT c s = tupV [st s, st [], bb false] := by unfold cutT; rw [h2, h3, h4]
      rw [hE]
      exact done_tup [st s, st [], bb false] [] rfl ⟨.same, .same, .same, trivial⟩
    · omega
theorem f42 (s : List UInt8) (hs : B62 s) (c : UInt8) : PureCall Tryd.prog 42 [st s, st [c]] (cutT c s) := by
  refine PureCall.run tab_ok mixed (by kernel_rfl) Tryd.func42 rfl rfl rfl ?_
  conv => whnf
  repeat (first | ((with_reducible first | apply ga | apply gb | apply gc | apply gd | apply ge | apply gf | apply gg | apply gh | apply gi | apply gj); conv => whnf) | (refine ⟨⟨rfl, rfl, nle rfl, nle rfl⟩, ?_⟩; conv => whnf) | fail)
  refine CallK.flat [] (f54 s hs c) ⟨.same, .same, trivial⟩ rfl ?_
  conv => whnf
  repeat (first | ((with_reducible first | apply ga | apply gb | apply gc | apply gd | apply ge | apply gf | apply gg | apply gh | apply gi | apply gj); conv => whnf) | (refine ⟨⟨rfl, rfl, nle rfl, nle rfl⟩, ?_⟩; conv => whnf) | fail)
  exact done_tup [_, _, _] [] rfl ⟨.same, .same, .same, trivial⟩
/-- The fields of a statement, with their offsets: o is where s begins, cur the word before it. -/
def flds : Nat → List UInt8 → List UInt8 → List (Nat × List UInt8)
  | o, cur, [] => if cur == [] then [] else [(o - cur.length, cur)]
  | o, cur, c :: s => if blank c then (if cur == [] then flds (o + 1) [] s else (o - cur.length, cur) :: flds (o + 1) [] s) else flds (o + 1) (cur ++ [c]) s
def word (s : List UInt8) : List UInt8 := s.takeWhile (fun c => !blank c)
theorem flds_word : ∀ (s : List UInt8) (o : Nat) (cur : List UInt8), flds o cur s = flds (o + (word s).length) (cur ++ word s) (s.drop (word s).length)
  | [], o, cur => by simp [word]
  | c :: s, o, cur => by
    cases hb : blank c with
    | true => simp [word, hb]
    | false =>
      have hw : word (c :: s) = c :: word s := by simp [word, hb]
      rw [hw, List.length_cons, List.drop_succ_cons]
      have : flds o cur (c :: s) = flds (o + 1) (cur ++ [c]) s := by simp [flds, hb]
      rw [this, flds_word s]
      congr 1
      · omega
      · simp
/-- From i on. -/
def fl (s : List UInt8) (i : Nat) : List (Nat × List UInt8) := flds i [] (s.drop i)
theorem fl_end {s : List UInt8} {i : Nat} (h : s.length ≤ i) : fl s i = [] := by unfold fl; rw [List.drop_eq_nil_of_le h]; rfl
theorem fl_step {s : List UInt8} {i k : Nat} (hi : i < s.length) (hk : k = i + (word (s.drop i)).length) :
    fl s i = (if i < k then [(i, (s.take k).drop i)] else []) ++ fl s (k + 1) := by
  have hw : (s.drop i).take (word (s.drop i)).length = word (s.drop i) := (List.prefix_iff_eq_take.mp (List.takeWhile_prefix _)).symm
  have hsub : (s.take k).drop i = word (s.drop i) := by
    rw [List.drop_take, show k - i = (word (s.drop i)).length by omega, hw]
  have hlen : (word (s.drop i)).length ≤ s.length - i := by have := tw_le (p := fun c => !blank c) (s.drop i); simpa [word] using this
  unfold fl
  rw [flds_word (s.drop i) i [], List.nil_append, List.drop_drop, hsub, show i + (word (s.drop i)).length = k by omega]
  by_cases hkl : k < s.length
  · rw [getD_drop hkl]
    have hbl : blank (s.getD k 0) = true := by
      have := tw_end (p := fun c => !blank c) (s := s.drop i) (by show (word (s.drop i)).length < _; simp; omega)
      simp only [Bool.not_eq_false'] at this
      rw [show (s.drop i).getD ((s.drop i).takeWhile (fun c => !blank c)).length 0 = s.getD k 0 by
        rw [List.getD_eq_getElem?_getD, List.getElem?_drop, List.getD_eq_getElem?_getD]; subst hk; rfl] at this
      exact this
    by_cases hik : i < k
    · have hne : (word (s.drop i) == []) = false := by
        cases hq : word (s.drop i) with
        | nil => rw [hq] at hk; simp at hk; omega
        | cons _ _ => rfl
      simp only [flds, hbl, if_true, hne, if_pos hik, Bool.false_eq_true, if_false]
      rw [show k - (word (s.drop i)).length = i by omega]
      rfl
    · have hne : word (s.drop i) = [] := List.eq_nil_of_length_eq_zero (by omega)
      simp only [flds, hbl, if_true, hne, if_neg hik, List.nil_append]
      rfl
  · rw [show s.drop k = [] from List.drop_eq_nil_of_le (by omega), show s.drop (k + 1) = [] from List.drop_eq_nil_of_le (by omega)]
    by_cases hik : i < k
    · have hne : (word (s.drop i) == []) = false := by
        cases hq : word (s.drop i) with
        | nil => rw [hq] at hk; simp at hk; omega
        | cons _ _ => rfl
      simp only [flds, hne, if_pos hik, Bool.false_eq_true, if_false]
      rw [show k - (word (s.drop i)).length = i by omega]
      rfl
    · have hne : word (s.drop i) = [] := List.eq_nil_of_length_eq_zero (by omega)
      simp only [flds, hne, if_neg hik, List.nil_append]
      rfl
def logF (l : List (Nat × List UInt8)) : List (List AV) := l.map fun p => [i64 p.1, st p.2]
theorem logF_app (l m : List (Nat × List UInt8)) : logF (l ++ m) = logF l ++ logF m := by simp [logF]
def fldsF (s : List UInt8) : AV := .func (.func 55) 0 (fun _ => .nilS) 1 (getL [.rptr 1 fun _ => .str s])
theorem f44 (s : List UInt8) : PureCall Tryd.prog 44 [st s] (fldsF s) := by
  refine PureCall.run tab_ok mixed (by kernel_rfl) Tryd.func44 rfl rfl rfl ?_
  conv => whnf
  repeat (first | ((with_reducible first | apply ga | apply gb | apply gc | apply gd | apply ge | apply gf | apply gg | apply gh | apply gi | apply gj); conv => whnf) | (refine ⟨⟨rfl, rfl, nle rfl, nle rfl⟩, ?_⟩; conv => whnf) | fail)
  refine ⟨[1], .func _ _ _ _ _ _ _ (fun i hi => absurd hi (Nat.not_lt_zero i)) fun i hi => ?_⟩
  match i with
  | 0 => exact .frzp _ _ _ _ _ _ _ _ rfl rfl rfl rfl (Nat.le_refl _) (Nat.le_refl _) fun j _ => .same
theorem logF_prefix {l m : List (Nat × List UInt8)} (h : l <+: m) : logF l <+: logF m := List.IsPrefix.map _ h
def yl (l : Nat) : AV := .func (.yield l) 0 (fun _ => .nilS) 0 (fun _ => .nilS)
theorem yl_le {H : Heap} {B : List Nat} {U : List (Nat × Nat)} {l : Nat} : VLe H B U (yl l) (yl l) := .func _ _ _ _ _ _ _ (fun i hi => absurd hi (Nat.not_lt_zero i)) (fun i hi => absurd hi (Nat.not_lt_zero i))
theorem word_in {s : List UInt8} {i j : Nat} (h1 : i ≤ j) (h2 : j < i + (word (s.drop i)).length) : blank (s.getD j 0) = false := by
  have := (tw_lt (p := fun c => !blank c) (s := s.drop i) (i := j - i) (by show _ < (word (s.drop i)).length; omega)).2
  rw [List.getD_eq_getElem?_getD, List.getElem?_drop, show i + (j - i) = j by omega, ← List.getD_eq_getElem?_getD] at this
  simpa using this
theorem word_end {s : List UInt8} {i k : Nat} (hk : k = i + (word (s.drop i)).length) (h : k < s.length) : blank (s.getD k 0) = true := by
  have := tw_end (p := fun c => !blank c) (s := s.drop i) (by show (word (s.drop i)).length < _; simp; omega)
  rw [List.getD_eq_getElem?_getD, List.getElem?_drop, show i + ((s.drop i).takeWhile (fun c => !blank c)).length = k from hk.symm, ← List.getD_eq_getElem?_getD] at this
  simpa using this
theorem f55 (s : List UInt8) (hs : B62 s) : IterCall Tryd.prog 55 [.rptr 1 fun _ => .str s] (fun p => p <+: logF (fl s 0)) (fun p => p = logF (fl s 0)) := by
  unfold B62 at hs
  refine IterCall.run tab_ok mixed (by kernel_rfl) Tryd.func55 rfl rfl rfl fun l => ?_
  conv => whnf
  repeat (first | ((with_reducible first | apply ga | apply gb | apply gc | apply gd | apply ge | apply gf | apply gg | apply gh | apply gi | apply gj); conv => whnf) | (refine ⟨⟨rfl, rfl, nle rfl, nle rfl⟩, ?_⟩; conv => whnf) | fail)
  refine ex_loop tab_ok mixed (fun x : Nat × List (Nat × List UInt8) => x.1 ≤ s.length + 1 ∧ x.2 ++ fl s x.1 = fl s 0) (fun x => mkStX 38 [(0, yl l), (1, .rptr 1 fun _ => .str s), (3, i64 x.1)] [] ⟨some l, fun p => p <+: logF (fl s 0), logF x.2, false, fun _ => none, false⟩) (fun x => s.length + 2 - x.1) (0, []) ⟨Nat.zero_le _, rfl⟩ (SubS.mkX [] rfl ⟨⟨_, rfl, yl_le⟩, ⟨_, rfl, .rptr _ _ _ fun i _ => .refl _⟩, ⟨_, rfl, .same⟩, trivial⟩ trivial ⟨rfl, rfl, rfl, rfl, rfl, fun t v h => by cases h⟩) ?_
  rintro ⟨i, L⟩ ⟨hi, hL⟩
  dsimp only at hi hL ⊢
  conv => whnf
  repeat (first | ((with_reducible first | apply ga | apply gb | apply gc | apply gd | apply ge | apply gf | apply gg | apply gh | apply gi | apply gj); conv => whnf) | (refine ⟨⟨rfl, rfl, nle rfl, nle rfl⟩, ?_⟩; conv => whnf) | fail)
  refine ⟨⟨Nat.le_refl _⟩, ?_⟩
  conv => whnf
  repeat (first | ((with_reducible first | apply ga | apply gb | apply gc | apply gd | apply ge | apply gf | apply gg | apply gh | apply gi | apply gj); conv => whnf) | (refine ⟨⟨rfl, rfl, nle rfl, nle rfl⟩, ?_⟩; conv => whnf) | fail)
  refine ⟨fun hc => ?_, fun hc => ?_⟩ <;> replace hc := nm hc <;> (try simp only [Int.toNat_zero] at hc) <;> (try simp only [Int.toNat_one] at hc)
  · have hlt : i < s.length := by omega
    obtain ⟨k, hk⟩ : ∃ k, k = i + (word (s.drop i)).length := ⟨_, rfl⟩
    have hwl : (word (s.drop i)).length ≤ (s.drop i).length := tw_le _
    have hkl : k ≤ s.length := by simp at hwl; omega
    have hstep := fl_step hlt hk
    conv => whnf
    repeat (first | ((with_reducible first | apply ga | apply gb | apply gc | apply gd | apply ge | apply gf | apply gg | apply gh | apply gi | apply gj); conv => whnf) | (refine ⟨⟨rfl, rfl, nle rfl, nle rfl⟩, ?_⟩; conv => whnf) | fail)
    refine ex_loop tab_ok mixed (fun j => i ≤ j ∧ j ≤ k) (fun j : Nat => mkStX 38 [(0, yl l), (1, .rptr 1 fun _ => .str s), (3, i64 i), (4, i64 j)] [] ⟨some l, fun p => p <+: logF (fl s 0), logF L, false, fun _ => none, false⟩) (fun j => k - j) i ⟨Nat.le_refl _, by omega⟩ (SubS.mkX [] rfl ⟨⟨_, rfl, yl_le⟩, ⟨_, rfl, .rptr _ _ _ fun i _ => .refl _⟩, ⟨_, rfl, .same⟩, ⟨_, rfl, .same⟩, trivial⟩ trivial ⟨rfl, rfl, rfl, rfl, rfl, fun t v h => by cases h⟩) ?_
    rintro j ⟨hij, hjk⟩
    conv => whnf
    repeat (first | ((with_reducible first | apply ga | apply gb | apply gc | apply gd | apply ge | apply gf | apply gg | apply gh | apply gi | apply gj); conv => whnf) | (refine ⟨⟨rfl, rfl, nle rfl, nle rfl⟩, ?_⟩; conv => whnf) | fail)
    refine ⟨⟨Nat.le_refl _⟩, ?_⟩
    conv => whnf
    repeat (first | ((with_reducible first | apply ga | apply gb | apply gc | apply gd | apply ge | apply gf | apply gg | apply gh | apply gi | apply gj); conv => whnf) | (refine ⟨⟨rfl, rfl, nle rfl, nle rfl⟩, ?_⟩; conv => whnf) | fail)
    refine ⟨fun hj => ?_, fun hj => ?_⟩ <;> replace hj := nm hj <;> (try simp only [Int.toNat_zero] at hj) <;> (try simp only [Int.toNat_one] at hj)
    · conv => whnf
      repeat (first | ((with_reducible first | apply ga | apply gb | apply gc | apply gd | apply ge | apply gf | apply gg | apply gh | apply gi | apply gj); conv => whnf) | (refine ⟨⟨rfl, rfl, nle rfl, nle rfl⟩, ?_⟩; conv => whnf) | fail)
      refine ⟨⟨Nat.le_refl _⟩, ?_⟩
      conv => whnf
      repeat (first | ((with_reducible first | apply ga | apply gb | apply gc | apply gd | apply ge | apply gf | apply gg | apply gh | apply gi | apply gj); conv => whnf) | (refine ⟨⟨rfl, rfl, nle rfl, nle rfl⟩, ?_⟩; conv => whnf) | fail)
      refine ⟨⟨by omega, by omega⟩, ?_⟩
      conv => whnf
      repeat (first | ((with_reducible first | apply ga | apply gb | apply gc | apply gd | apply ge | apply gf | apply gg | apply gh | apply gi | apply gj); conv => whnf) | (refine ⟨⟨rfl, rfl, nle rfl, nle rfl⟩, ?_⟩; conv => whnf) | fail)
      rw [show ((j : Int)).toNat = j from Int.toNat_natCast _]
      refine CallK.flat [] (f43 (s.getD j 0)) ⟨.same, trivial⟩ rfl ?_
      conv => whnf
      repeat (first | ((with_reducible first | apply ga | apply gb | apply gc | apply gd | apply ge | apply gf | apply gg | apply gh | apply gi | apply gj); conv => whnf) | (refine ⟨⟨rfl, rfl, nle rfl, nle rfl⟩, ?_⟩; conv => whnf) | fail)
      refine ⟨fun hb => ?_, fun hb => ?_⟩ <;> replace hb := nm hb <;> (try simp only [Int.toNat_zero] at hb) <;> (try simp only [Int.toNat_one] at hb)
      · have hjk2 : j < k := by
          rcases Nat.lt_or_ge j k with h | h
          · exact h
          · obtain rfl : j = k := by omega
            rw [word_end hk (by omega)] at hb; cases hb
        conv => whnf
        repeat (first | ((with_reducible first | apply ga | apply gb | apply gc | apply gd | apply ge | apply gf | apply gg | apply gh | apply gi | apply gj); conv => whnf) | (refine ⟨⟨rfl, rfl, nle rfl, nle rfl⟩, ?_⟩; conv => whnf) | fail)
        refine ⟨⟨by unfold inI64; omega⟩, ?_⟩
        conv => whnf
        repeat (first | ((with_reducible first | apply ga | apply gb | apply gc | apply gd | apply ge | apply gf | apply gg | apply gh | apply gi | apply gj); conv => whnf) | (refine ⟨⟨rfl, rfl, nle rfl, nle rfl⟩, ?_⟩; conv => whnf) | fail)
        exact ⟨j + 1, ⟨by omega, by omega⟩, SubS.mkX [] rfl ⟨⟨_, rfl, yl_le⟩, ⟨_, rfl, .rptr _ _ _ fun i _ => .refl _⟩, ⟨_, rfl, .same⟩, ⟨_, rfl, .same⟩, trivial⟩ trivial ⟨rfl, rfl, rfl, rfl, rfl, fun t v h => by cases h⟩, by omega⟩
      · obtain rfl : k = j := by
          rcases Nat.lt_or_ge j k with h | h
          · rw [word_in hij (by omega)] at hb; cases hb
          · omega
        clear hb hj hij hjk
        conv => whnf
        repeat (first | ((with_reducible first | apply ga | apply gb | apply gc | apply gd | apply ge | apply gf | apply gg | apply gh | apply gi | apply gj); conv => whnf) | (refine ⟨⟨rfl, rfl, nle rfl, nle rfl⟩, ?_⟩; conv => whnf) | fail)
        refine ⟨fun hki => ?_, fun hki => ?_⟩ <;> replace hki := nm hki <;> (try simp only [Int.toNat_zero] at hki) <;> (try simp only [Int.toNat_one] at hki)
        · conv => whnf
          repeat (first | ((with_reducible first | apply ga | apply gb | apply gc | apply gd | apply ge | apply gf | apply gg | apply gh | apply gi | apply gj); conv => whnf) | (refine ⟨⟨rfl, rfl, nle rfl, nle rfl⟩, ?_⟩; conv => whnf) | fail)
          refine ⟨⟨Nat.le_refl _⟩, ?_⟩
          conv => whnf
          repeat (first | ((with_reducible first | apply ga | apply gb | apply gc | apply gd | apply ge | apply gf | apply gg | apply gh | apply gi | apply gj); conv => whnf) | (refine ⟨⟨rfl, rfl, nle rfl, nle rfl⟩, ?_⟩; conv => whnf) | fail)
          refine ⟨⟨by omega, by omega, by omega⟩, ?_⟩
          conv => whnf
          repeat (first | ((with_reducible first | apply ga | apply gb | apply gc | apply gd | apply ge | apply gf | apply gg | apply gh | apply gi | apply gj); conv => whnf) | (refine ⟨⟨rfl, rfl, nle rfl, nle rfl⟩, ?_⟩; conv => whnf) | fail)
          have e2 : (s.take (k : Int).toNat).drop (i : Int).toNat = (s.take k).drop i := by rw [Int.toNat_natCast, Int.toNat_natCast]
          rw [if_pos (by omega)] at hstep
          refine ⟨⟨rfl, rfl, ?_, rfl⟩, fun stop => ?_⟩
          · show logF L ++ [[i64 i, st ((s.take (k : Int).toNat).drop (i : Int).toNat)]] <+: logF (fl s 0)
            rw [e2, ← hL, hstep]
            exact ⟨logF (fl s (k + 1)), by simp [logF]⟩
          conv => whnf
          repeat (first | ((with_reducible first | apply ga | apply gb | apply gc | apply gd | apply ge | apply gf | apply gg | apply gh | apply gi | apply gj); conv => whnf) | (refine ⟨⟨rfl, rfl, nle rfl, nle rfl⟩, ?_⟩; conv => whnf) | fail)
          refine ⟨fun h1 => ?_, fun h1 => ?_⟩
          · conv => whnf
            repeat (first | ((with_reducible first | apply ga | apply gb | apply gc | apply gd | apply ge | apply gf | apply gg | apply gh | apply gi | apply gj); conv => whnf) | (refine ⟨⟨rfl, rfl, nle rfl, nle rfl⟩, ?_⟩; conv => whnf) | fail)
            intro h
            exact absurd (show stop = false from h) (by cases stop <;> simp_all)
          obtain rfl : stop = false := by cases stop <;> simp_all
          conv => whnf
          repeat (first | ((with_reducible first | apply ga | apply gb | apply gc | apply gd | apply ge | apply gf | apply gg | apply gh | apply gi | apply gj); conv => whnf) | (refine ⟨⟨rfl, rfl, nle rfl, nle rfl⟩, ?_⟩; conv => whnf) | fail)
          refine ⟨⟨by unfold inI64; omega⟩, ?_⟩
          conv => whnf
          repeat (first | ((with_reducible first | apply ga | apply gb | apply gc | apply gd | apply ge | apply gf | apply gg | apply gh | apply gi | apply gj); conv => whnf) | (refine ⟨⟨rfl, rfl, nle rfl, nle rfl⟩, ?_⟩; conv => whnf) | fail)
          refine ⟨(k + 1, L ++ [(i, (s.take k).drop i)]), ⟨by dsimp only; omega, by dsimp only; rw [← hL, hstep, List.append_assoc]⟩, SubS.mkX [] rfl ⟨⟨_, rfl, yl_le⟩, ⟨_, rfl, .rptr _ _ _ fun i _ => .refl _⟩, ⟨_, rfl, .same⟩, trivial⟩ trivial ⟨rfl, rfl, ?_, rfl, rfl, fun t v h => by cases h⟩, by dsimp only; omega⟩
          show logF (L ++ [(i, (s.take k).drop i)]) = logF L ++ [[i64 i, st ((s.take (k : Int).toNat).drop (i : Int).toNat)]]
          rw [e2, logF_app]; rfl
        · rw [if_neg (by omega), List.nil_append] at hstep
          conv => whnf
          repeat (first | ((with_reducible first | apply ga | apply gb | apply gc | apply gd | apply ge | apply gf | apply gg | apply gh | apply gi | apply gj); conv => whnf) | (refine ⟨⟨rfl, rfl, nle rfl, nle rfl⟩, ?_⟩; conv => whnf) | fail)
          refine ⟨⟨by unfold inI64; omega⟩, ?_⟩
          conv => whnf
          repeat (first | ((with_reducible first | apply ga | apply gb | apply gc | apply gd | apply ge | apply gf | apply gg | apply gh | apply gi | apply gj); conv => whnf) | (refine ⟨⟨rfl, rfl, nle rfl, nle rfl⟩, ?_⟩; conv => whnf) | fail)
          exact ⟨(k + 1, L), ⟨by dsimp only; omega, by dsimp only; rw [← hL, hstep]⟩, SubS.mkX [] rfl ⟨⟨_, rfl, yl_le⟩, ⟨_, rfl, .rptr _ _ _ fun i _ => .refl _⟩, ⟨_, rfl, .same⟩, trivial⟩ trivial ⟨rfl, rfl, rfl, rfl, rfl, fun t v h => by cases h⟩, by dsimp only; omega⟩
    · obtain rfl : k = j := by omega
      clear hj hij hjk
      conv => whnf
      repeat (first | ((with_reducible first | apply ga | apply gb | apply gc | apply gd | apply ge | apply gf | apply gg | apply gh | apply gi | apply gj); conv => whnf) | (refine ⟨⟨rfl, rfl, nle rfl, nle rfl⟩, ?_⟩; conv => whnf) | fail)
      refine ⟨fun hki => ?_, fun hki => ?_⟩ <;> replace hki := nm hki <;> (try simp only [Int.toNat_zero] at hki) <;> (try simp only [Int.toNat_one] at hki)
      · conv => whnf
        repeat (first | ((with_reducible first | apply ga | apply gb | apply gc | apply gd | apply ge | apply gf | apply gg | apply gh | apply gi | apply gj); conv => whnf) | (refine ⟨⟨rfl, rfl, nle rfl, nle rfl⟩, ?_⟩; conv => whnf) | fail)
        refine ⟨⟨Nat.le_refl _⟩, ?_⟩
        conv => whnf
        repeat (first | ((with_reducible first | apply ga | apply gb | apply gc | apply gd | apply ge | apply gf | apply gg | apply gh | apply gi | apply gj); conv => whnf) | (refine ⟨⟨rfl, rfl, nle rfl, nle rfl⟩, ?_⟩; conv => whnf) | fail)
        refine ⟨⟨by omega, by omega, by omega⟩, ?_⟩
        conv => whnf
        repeat (first | ((with_reducible first | apply ga | apply gb | apply gc | apply gd | apply ge | apply gf | apply gg | apply gh | apply gi | apply gj); conv => whnf) | (refine ⟨⟨rfl, rfl, nle rfl, nle rfl⟩, ?_⟩; conv => whnf) | fail)
        have e2 : (s.take (k : Int).toNat).drop (i : Int).toNat = (s.take k).drop i := by rw [Int.toNat_natCast, Int.toNat_natCast]
        rw [if_pos (by omega)] at hstep
        refine ⟨⟨rfl, rfl, ?_, rfl⟩, fun stop => ?_⟩
        · show logF L ++ [[i64 i, st ((s.take (k : Int).toNat).drop (i : Int).toNat)]] <+: logF (fl s 0)
          rw [e2, ← hL, hstep]
          exact ⟨logF (fl s (k + 1)), by simp [logF]⟩
        conv => whnf
        repeat (first | ((with_reducible first | apply ga | apply gb | apply gc | apply gd | apply ge | apply gf | apply gg | apply gh | apply gi | apply gj); conv => whnf) | (refine ⟨⟨rfl, rfl, nle rfl, nle rfl⟩, ?_⟩; conv => whnf) | fail)
        refine ⟨fun h1 => ?_, fun h1 => ?_⟩
        · conv => whnf
          repeat (first | ((with_reducible first | apply ga | apply gb | apply gc | apply gd | apply ge | apply gf | apply gg | apply gh | apply gi | apply gj); conv => whnf) | (refine ⟨⟨rfl, rfl, nle rfl, nle rfl⟩, ?_⟩; conv => whnf) | fail)
          intro h
          exact absurd (show stop = false from h) (by cases stop <;> simp_all)
        obtain rfl : stop = false := by cases stop <;> simp_all
        conv => whnf
        repeat (first | ((with_reducible first | apply ga | apply gb | apply gc | apply gd | apply ge | apply gf | apply gg | apply gh | apply gi | apply gj); conv => whnf) | (refine ⟨⟨rfl, rfl, nle rfl, nle rfl⟩, ?_⟩; conv => whnf) | fail)
        refine ⟨⟨by unfold inI64; omega⟩, ?_⟩
        conv => whnf
        repeat (first | ((with_reducible first | apply ga | apply gb | apply gc | apply gd | apply ge | apply gf | apply gg | apply gh | apply gi | apply gj); conv => whnf) | (refine ⟨⟨rfl, rfl, nle rfl, nle rfl⟩, ?_⟩; conv => whnf) | fail)
        refine ⟨(k + 1, L ++ [(i, (s.take k).drop i)]), ⟨by dsimp only; omega, by dsimp only; rw [← hL, hstep, List.append_assoc]⟩, SubS.mkX [] rfl ⟨⟨_, rfl, yl_le⟩, ⟨_, rfl, .rptr _ _ _ fun i _ => .refl _⟩, ⟨_, rfl, .same⟩, trivial⟩ trivial ⟨rfl, rfl, ?_, rfl, rfl, fun t v h => by cases h⟩, by dsimp only; omega⟩
        show logF (L ++ [(i, (s.take k).drop i)]) = logF L ++ [[i64 i, st ((s.take (k : Int).toNat).drop (i : Int).toNat)]]
        rw [e2, logF_app]; rfl
      · rw [if_neg (by omega), List.nil_append] at hstep
        conv => whnf
        repeat (first | ((with_reducible first | apply ga | apply gb | apply gc | apply gd | apply ge | apply gf | apply gg | apply gh | apply gi | apply gj); conv => whnf) | (refine ⟨⟨rfl, rfl, nle rfl, nle rfl⟩, ?_⟩; conv => whnf) | fail)
        refine ⟨⟨by unfold inI64; omega⟩, ?_⟩
        conv => whnf
        repeat (first | ((with_reducible first | apply ga | apply gb | apply gc | apply gd | apply ge | apply gf | apply gg | apply gh | apply gi | apply gj); conv => whnf) | (refine ⟨⟨rfl, rfl, nle rfl, nle rfl⟩, ?_⟩; conv => whnf) | fail)
        exact ⟨(k + 1, L), ⟨by dsimp only; omega, by dsimp only; rw [← hL, hstep]⟩, SubS.mkX [] rfl ⟨⟨_, rfl, yl_le⟩, ⟨_, rfl, .rptr _ _ _ fun i _ => .refl _⟩, ⟨_, rfl, .same⟩, trivial⟩ trivial ⟨rfl, rfl, rfl, rfl, rfl, fun t v h => by cases h⟩, by dsimp only; omega⟩
  · rw [fl_end (by omega), List.append_nil] at hL
    conv => whnf
    repeat (first | ((with_reducible first | apply ga | apply gb | apply gc | apply gd | apply ge | apply gf | apply gg | apply gh | apply gi | apply gj); conv => whnf) | (refine ⟨⟨rfl, rfl, nle rfl, nle rfl⟩, ?_⟩; conv => whnf) | fail)
    intro _
    show logF L = _
    rw [hL]
end Go.Proofs.YtdoeiccibhabcaaDoor

namespace Go.Proofs.YtdoeiccibhabcaaDoor
open Go Go.AM
attribute [local irreducible] AWP CallK PureCall SubS HeapCall
structure Line where
  lab : List UInt8
  op : List UInt8
  arg : Arg
def Line.c (l : Line) : Nat → AV := getL [st l.lab, st l.op, u8 l.arg.k, st l.arg.nm, i64 l.arg.v]
def Line.av (l : Line) : AV := .agg 5 l.c
def lz : Line := ⟨[], [], az⟩
def scanT (x : Line × Int × Int) : AV := tupV [x.1.av, i64 x.2.1, i64 x.2.2]
def upd (m : Nat) (s : List UInt8) (l : Line) : Line := if m = 0 then { l with lab := s } else if m = 1 then { l with op := s } else { l with arg := (opnd s).1 }
/-- The fields of a line are taken in, m of them came before. -/
def scanF : List (Nat × List UInt8) → Nat → Line → Line × Int × Int
  | [], _, l => (l, 0, 0)
  | p :: ps, m, l =>
    if m ≤ 1 then (if isName p.2 then scanF ps (m + 1) (upd m p.2 l) else (lz, p.1, 5))
    else if m = 2 then (if (opnd p.2).2.2 ≠ 0 then (lz, p.1 + (opnd p.2).2.1, (opnd p.2).2.2) else scanF ps (m + 1) (upd m p.2 l))
    else (lz, p.1, 5)
def outF : Nat → List (Nat × List UInt8) → Line → Line
  | _, [], l => l
  | m, p :: ps, l => outF (m + 1) ps (upd m p.2 l)
theorem outF_snoc : ∀ (ps : List (Nat × List UInt8)) (m : Nat) (l : Line) (p : Nat × List UInt8), outF m (ps ++ [p]) l = upd (m + ps.length) p.2 (outF m ps l)
  | [], m, l, p => rfl
  | q :: ps, m, l, p => by
    rw [List.cons_append, outF, outF_snoc ps, outF, List.length_cons]
    congr 1; omega
def nx (t : List UInt8) : Nat := if t == [] || blank (t.getD 0 0) then 1 else 0
def scan (s : List UInt8) : Line × Int × Int := if 120 < (s.length : Int) then (lz, 120, 4) else scanF (fl (bef 35 s) 0) (nx (bef 35 s)) lz
theorem flds_bd : ∀ (s : List UInt8) (o : Nat) (cur : List UInt8) (p : Nat × List UInt8), p ∈ flds o cur s → p.2.length ≤ cur.length + s.length ∧ p.1 ≤ o + s.length
  | [], o, cur, p, h => by
    simp only [flds] at h
    split at h
    · cases h
    · simp only [List.mem_singleton] at h; subst h; simp
  | c :: s, o, cur, p, h => by
    simp only [flds] at h
    split at h
    · split at h
      · have := flds_bd s (o + 1) [] p h; simp at this ⊢; omega
      · rcases List.mem_cons.mp h with rfl | h
        · simp; omega
        · have := flds_bd s (o + 1) [] p h; simp at this ⊢; omega
    · have := flds_bd s (o + 1) (cur ++ [c]) p h; simp at this ⊢; omega
theorem fl_bd {s : List UInt8} {p : Nat × List UInt8} (h : p ∈ fl s 0) : p.2.length ≤ s.length ∧ p.1 ≤ s.length := by
  have := flds_bd _ _ _ p h; simpa using this
theorem opnd_at (s : List UInt8) : 0 ≤ (opnd s).2.1 ∧ (opnd s).2.1 ≤ s.length + 1 := by
  have := tw_le (p := inner) s
  change nameLen s ≤ s.length at this
  unfold opnd
  repeat' split
  all_goals (simp only; omega)
theorem bef_le (c : UInt8) (s : List UInt8) : (bef c s).length ≤ s.length := tw_le s
theorem valid_log {pre : List (List AV)} {x : List AV} {F : List (Nat × List UInt8)} (h : pre ++ [x] <+: logF F) :
    ∃ p, p ∈ F ∧ F.drop pre.length = p :: F.drop (pre.length + 1) ∧ x = [i64 p.1, st p.2] ∧ F.take (pre.length + 1) = F.take pre.length ++ [p] ∧ pre.length < F.length := by
  obtain ⟨r, hr⟩ := h
  have hlen : pre.length < F.length := by
    have := congrArg List.length hr
    simp [logF] at this; omega
  refine ⟨F[pre.length], List.getElem_mem hlen, List.drop_eq_getElem_cons hlen, ?_, ?_, hlen⟩
  · have : (logF F)[pre.length]? = some x := by rw [← hr]; simp
    simp only [logF, List.getElem?_map, List.getElem?_eq_getElem hlen, Option.map_some, Option.some.injEq] at this
    exact this.symm
  · rw [List.take_add_one, List.getElem?_eq_getElem hlen]; rfl
theorem agg5 {H : Heap} {B : List Nat} {U : List (Nat × Nat)} {f g : Nat → AV} (h0 : VLe H B U (f 0) (g 0)) (h1 : VLe H B U (f 1) (g 1)) (h2 : VLe H B U (f 2) (g 2)) (h3 : VLe H B U (f 3) (g 3)) (h4 : VLe H B U (f 4) (g 4)) : VLe H B U (.agg 5 f) (.agg 5 g) :=
  .agg _ _ _ fun i hi => match i, hi with
    | 0, _ => h0
    | 1, _ => h1
    | 2, _ => h2
    | 3, _ => h3
    | 4, _ => h4
theorem ole5 {H : Heap} {B : List Nat} {U : List (Nat × Nat)} {o o' : AO} (hE : o'.E = o.E) (hg : o'.gen = o.gen) (h3 : o.sz = 5) (hs : o'.sz = 5) (hn : o.n = 1) (hn' : o'.n = 1) (h0 : VLe H B U (o.f 0 0) (o'.f 0 0)) (h1 : VLe H B U (o.f 0 1) (o'.f 0 1)) (h2 : VLe H B U (o.f 0 2) (o'.f 0 2))
    (h3' : VLe H B U (o.f 0 3) (o'.f 0 3)) (h4 : VLe H B U (o.f 0 4) (o'.f 0 4)) : OLe H B U o o' := by
  refine ⟨hE, hg, by omega, by omega, fun i j hi hj => ?_⟩
  obtain rfl : i = 0 := by omega
  rcases (by omega : j = 0 ∨ j = 1 ∨ j = 2 ∨ j = 3 ∨ j = 4) with rfl | rfl | rfl | rfl | rfl
  · exact h0
  · exact h1
  · exact h2
  · exact h3'
  · exact h4
theorem ole1 {H : Heap} {B : List Nat} {U : List (Nat × Nat)} {o o' : AO} (hE : o'.E = o.E) (hg : o'.gen = o.gen) (h3 : o.sz = 1) (hs : o'.sz = 1) (hn : o.n = 1) (hn' : o'.n = 1) (h0 : VLe H B U (o.f 0 0) (o'.f 0 0)) : OLe H B U o o' := by
  refine ⟨hE, hg, by omega, by omega, fun i j hi hj => ?_⟩
  obtain rfl : i = 0 := by omega
  obtain rfl : j = 0 := by omega
  exact h0
def lineO (l : Line) : AO := ⟨32, 0, 5, 1, fun _ j => l.c j⟩
def intO (E : TypeId) (n : Int) : AO := ⟨E, 0, 1, 1, fun _ _ => i64 n⟩
def Sn (t : List UInt8) (m : Nat) (o : Line) : ASt := mkSt 76 [(34, fldsF t), (2, .ptr 2 0 5 0 0), (3, .ptr 3 0 1 0 0), (4, .ptr 4 0 1 0 0), (8, .ptr 8 0 5 0 0), (9, .ptr 9 0 1 0 0)]
  [(2, lineO lz), (3, intO 3 0), (4, intO 22 0), (8, lineO o), (9, intO 3 m)]
def Sc (t : List UInt8) (m : Nat) : ASt := mkSt 76 [(5, st t), (2, .ptr 2 0 5 0 0), (3, .ptr 3 0 1 0 0), (4, .ptr 4 0 1 0 0), (8, .ptr 8 0 5 0 0), (9, .ptr 9 0 1 0 0)]
  [(2, lineO lz), (3, intO 3 0), (4, intO 22 0), (8, lineO lz), (9, intO 3 m)]
theorem flds_le {H : Heap} {B : List Nat} {U : List (Nat × Nat)} {t : List UInt8} : VLe H B U (fldsF t) (fldsF t) := .func _ _ _ _ _ _ _ (fun i hi => absurd hi (Nat.not_lt_zero i)) fun i hi => match i, hi with
  | 0, _ => .rptr _ _ _ fun _ _ => .refl _
set_option maxHeartbeats 4000000 in
theorem f21_tail (c : Code) (hc : Tryd.f21.body = some c) (s t : List UInt8) (F : List (Nat × List UInt8)) (hF : fl t 0 = F) (htl : t.length ≤ 120) (hscan : scan s = scanF F (nx t) lz) :
    AWP Tryd.prog (tailN 6 c) (finQ tab Tryd.f21.results.toList fun v H => ∃ B, VLe H B [] v (scanT (scan s))) (Sc t (nx t)) := by
  cases hc
  have hnx : nx t ≤ 1 := by unfold nx; split <;> omega
  refine ex_sound tab_ok mixed _ _ _ ?_
  conv => whnf
  repeat (first | ((with_reducible first | apply ga | apply gb | apply gc | apply gd | apply ge | apply gf | apply gg | apply gh | apply gi | apply gj); conv => whnf) | (refine ⟨⟨rfl, rfl, nle rfl, nle rfl⟩, ?_⟩; conv => whnf) | fail)
  let S : List (List AV) → ASt := fun pre => Sn t (nx t + pre.length) (outF (nx t) (F.take pre.length) lz)
  refine CallK.drop [] (f44 t) ⟨.same, trivial⟩ ?_
  conv => whnf
  repeat (first | ((with_reducible first | apply ga | apply gb | apply gc | apply gd | apply ge | apply gf | apply gg | apply gh | apply gi | apply gj); conv => whnf) | (refine ⟨⟨rfl, rfl, nle rfl, nle rfl⟩, ?_⟩; conv => whnf) | fail)
  refine AWP.sub (st' := S []) (SubS.mk [] rfl ⟨⟨_, rfl, flds_le⟩, ⟨_, rfl, .ptr _ _ _ _ _ _ _ _ _ rfl rfl rfl rfl⟩, ⟨_, rfl, .ptr _ _ _ _ _ _ _ _ _ rfl rfl rfl rfl⟩, ⟨_, rfl, .ptr _ _ _ _ _ _ _ _ _ rfl rfl rfl rfl⟩, ⟨_, rfl, .ptr _ _ _ _ _ _ _ _ _ rfl rfl rfl rfl⟩, ⟨_, rfl, .ptr _ _ _ _ _ _ _ _ _ rfl rfl rfl rfl⟩, trivial⟩ ⟨.inl ⟨_, _, rfl, rfl, rfl, ole5 rfl rfl rfl rfl rfl rfl .same .same .same .same .same⟩, .inl ⟨_, _, rfl, rfl, rfl, ole1 rfl rfl rfl rfl rfl rfl .same⟩, .inl ⟨_, _, rfl, rfl, rfl, ole1 rfl rfl rfl rfl rfl rfl .same⟩, .inl ⟨_, _, rfl, rfl, rfl, ole5 rfl rfl rfl rfl rfl rfl .same .same .same .same .same⟩, .inl ⟨_, _, rfl, rfl, rfl, ole1 rfl rfl rfl rfl rfl rfl (.same)⟩, trivial⟩) (awp_range (S := S) (caps' := [.rptr 1 fun _ => .str t]) (fun pre => scan s = scanF (F.drop pre.length) (nx t + pre.length) (outF (nx t) (F.take pre.length) lz) ∧ nx t + pre.length ≤ 3) ⟨hscan, by simp; omega⟩ (fun _ => rfl) (fun _ => rfl) rfl rfl (fun k hk => ?_) ?_ ?_ (f55 t (by unfold B62; omega)) ?_ ?_)
  · match k with
    | 0 => exact .rptr _ _ _ fun _ _ => .refl _
  · intro p hp
    have hp : p = 35 ∨ p = 36 := by simpa using hp
    rcases hp with rfl | rfl
    · show 35 < 76; decide
    · show 36 < 76; decide
  · intro pre x h
    obtain ⟨p, _, _, rfl, _⟩ := valid_log h
    rfl
  · rintro pre x ⟨hI, h3⟩ h
    rw [hF] at h
    obtain ⟨p, hpF, hp2, rfl, hp3, hp4⟩ := valid_log h
    have hpb := fl_bd (by rw [hF]; exact hpF)
    have hpB : B62 p.2 := by unfold B62; omega
    have hat := opnd_at p.2
    have hlen : (pre ++ [[i64 p.1, st p.2]]).length = pre.length + 1 := by simp
    have hlt : (F.take pre.length).length = pre.length := by simp; omega
    rw [hp2] at hI
    show AWP _ _ _ (roundSt (Sn t (nx t + pre.length) (outF (nx t) (F.take pre.length) lz)) _ _)
    obtain ⟨m, hm⟩ : ∃ m, nx t + pre.length = m := ⟨_, rfl⟩
    obtain ⟨o, ho⟩ : ∃ o, outF (nx t) (F.take pre.length) lz = o := ⟨_, rfl⟩
    rw [hm] at hI h3
    rw [ho] at hI
    rw [hm, ho]
    refine ex_sound tab_ok mixed _ _ _ ?_
    conv => whnf
    repeat (first | ((with_reducible first | apply ga | apply gb | apply gc | apply gd | apply ge | apply gf | apply gg | apply gh | apply gi | apply gj); conv => whnf) | (refine ⟨⟨rfl, rfl, nle rfl, nle rfl⟩, ?_⟩; conv => whnf) | fail)
    refine ex_sound tab_ok mixed _ _ _ ?_
    conv => whnf
    repeat (first | ((with_reducible first | apply ga | apply gb | apply gc | apply gd | apply ge | apply gf | apply gg | apply gh | apply gi | apply gj); conv => whnf) | (refine ⟨⟨rfl, rfl, nle rfl, nle rfl⟩, ?_⟩; conv => whnf) | fail)
    refine ⟨fun h0 => ?_, fun h0 => ?_⟩ <;> replace h0 := nm h0 <;> (try simp only [Int.toNat_zero] at h0) <;> (try simp only [Int.toNat_one] at h0)
    · conv => whnf
      repeat (first | ((with_reducible first | apply ga | apply gb | apply gc | apply gd | apply ge | apply gf | apply gg | apply gh | apply gi | apply gj); conv => whnf) | (refine ⟨⟨rfl, rfl, nle rfl, nle rfl⟩, ?_⟩; conv => whnf) | fail)
      refine ⟨fun _ => ?_, fun e => absurd (((beq_iff_eq.mpr h0 : ((m : Int) == 0) = true)).symm.trans e) (by decide)⟩
      conv => whnf
      repeat (first | ((with_reducible first | apply ga | apply gb | apply gc | apply gd | apply ge | apply gf | apply gg | apply gh | apply gi | apply gj); conv => whnf) | (refine ⟨⟨rfl, rfl, nle rfl, nle rfl⟩, ?_⟩; conv => whnf) | fail)
      refine CallK.flat [] (f16 p.2 hpB) ⟨.same, trivial⟩ rfl ?_
      conv => whnf
      repeat (first | ((with_reducible first | apply ga | apply gb | apply gc | apply gd | apply ge | apply gf | apply gg | apply gh | apply gi | apply gj); conv => whnf) | (refine ⟨⟨rfl, rfl, nle rfl, nle rfl⟩, ?_⟩; conv => whnf) | fail)
      refine ⟨fun hn => ?_, fun hn => ?_⟩ <;> replace hn := nm hn <;> (try simp only [Int.toNat_zero] at hn) <;> (try simp only [Int.toNat_one] at hn)
      · conv => whnf
        repeat (first | ((with_reducible first | apply ga | apply gb | apply gc | apply gd | apply ge | apply gf | apply gg | apply gh | apply gi | apply gj); conv => whnf) | (refine ⟨⟨rfl, rfl, nle rfl, nle rfl⟩, ?_⟩; conv => whnf) | fail)
        have hR : scan s = (lz, (p.1 : Int), 5) := by rw [hI, scanF, if_pos (by omega), if_neg (by rw [hn]; decide)]
        rw [hR]
        exact done_tup [Line.av lz, i64 (p.1 : Int), i64 5] [] rfl ⟨agg5 .same .same .same .same .same, .same, .same, trivial⟩
      · conv => whnf
        repeat (first | ((with_reducible first | apply ga | apply gb | apply gc | apply gd | apply ge | apply gf | apply gg | apply gh | apply gi | apply gj); conv => whnf) | (refine ⟨⟨rfl, rfl, nle rfl, nle rfl⟩, ?_⟩; conv => whnf) | fail)
        refine ⟨fun _ => ?_, fun e => absurd (((beq_iff_eq.mpr h0 : ((m : Int) == 0) = true)).symm.trans e) (by decide)⟩
        conv => whnf
        repeat (first | ((with_reducible first | apply ga | apply gb | apply gc | apply gd | apply ge | apply gf | apply gg | apply gh | apply gi | apply gj); conv => whnf) | (refine ⟨⟨rfl, rfl, nle rfl, nle rfl⟩, ?_⟩; conv => whnf) | fail)
        refine CallK.flat [] (f41 p.2 (by omega)) ⟨.same, trivial⟩ rfl ?_
        conv => whnf
        repeat (first | ((with_reducible first | apply ga | apply gb | apply gc | apply gd | apply ge | apply gf | apply gg | apply gh | apply gi | apply gj); conv => whnf) | (refine ⟨⟨rfl, rfl, nle rfl, nle rfl⟩, ?_⟩; conv => whnf) | fail)
        refine ⟨⟨by unfold inI64; omega⟩, ?_⟩
        conv => whnf
        repeat (first | ((with_reducible first | apply ga | apply gb | apply gc | apply gd | apply ge | apply gf | apply gg | apply gh | apply gi | apply gj); conv => whnf) | (refine ⟨⟨rfl, rfl, nle rfl, nle rfl⟩, ?_⟩; conv => whnf) | fail)
        refine ⟨⟨?_, by show nx t + (pre ++ [[i64 p.1, st p.2]]).length ≤ 3; simp; omega⟩, ?_⟩
        · show scan s = scanF (F.drop (pre ++ [[i64 p.1, st p.2]]).length) (nx t + (pre ++ [[i64 p.1, st p.2]]).length) (outF (nx t) (F.take (pre ++ [[i64 p.1, st p.2]]).length) lz)
          rw [hI, scanF, if_pos (by omega), if_pos hn, hlen, hp3, outF_snoc, hlt, ← Nat.add_assoc, hm, ho]
        · show SubS _ (Sn t (nx t + (pre ++ [[i64 p.1, st p.2]]).length) (outF (nx t) (F.take (pre ++ [[i64 p.1, st p.2]]).length) lz))
          have hU : upd m p.2 o = { o with lab := p.2 } := by unfold upd; rw [if_pos (by omega)]
          rw [hlen, hp3, outF_snoc, hlt, ← Nat.add_assoc, hm, ho, hU]
          exact SubS.mk [] rfl ⟨⟨_, rfl, flds_le⟩, ⟨_, rfl, .ptr _ _ _ _ _ _ _ _ _ rfl rfl rfl rfl⟩, ⟨_, rfl, .ptr _ _ _ _ _ _ _ _ _ rfl rfl rfl rfl⟩, ⟨_, rfl, .ptr _ _ _ _ _ _ _ _ _ rfl rfl rfl rfl⟩, ⟨_, rfl, .ptr _ _ _ _ _ _ _ _ _ rfl rfl rfl rfl⟩, ⟨_, rfl, .ptr _ _ _ _ _ _ _ _ _ rfl rfl rfl rfl⟩, trivial⟩ ⟨.inl ⟨_, _, rfl, rfl, rfl, ole5 rfl rfl rfl rfl rfl rfl .same .same .same .same .same⟩, .inl ⟨_, _, rfl, rfl, rfl, ole1 rfl rfl rfl rfl rfl rfl .same⟩, .inl ⟨_, _, rfl, rfl, rfl, ole1 rfl rfl rfl rfl rfl rfl .same⟩, .inl ⟨_, _, rfl, rfl, rfl, ole5 rfl rfl rfl rfl rfl rfl .same .same .same .same .same⟩, .inl ⟨_, _, rfl, rfl, rfl, ole1 rfl rfl rfl rfl rfl rfl (.int (by omega))⟩, trivial⟩
    · conv => whnf
      repeat (first | ((with_reducible first | apply ga | apply gb | apply gc | apply gd | apply ge | apply gf | apply gg | apply gh | apply gi | apply gj); conv => whnf) | (refine ⟨⟨rfl, rfl, nle rfl, nle rfl⟩, ?_⟩; conv => whnf) | fail)
      refine ⟨fun h1 => ?_, fun h1 => ?_⟩ <;> replace h1 := nm h1 <;> (try simp only [Int.toNat_zero] at h1) <;> (try simp only [Int.toNat_one] at h1)
      · conv => whnf
        repeat (first | ((with_reducible first | apply ga | apply gb | apply gc | apply gd | apply ge | apply gf | apply gg | apply gh | apply gi | apply gj); conv => whnf) | (refine ⟨⟨rfl, rfl, nle rfl, nle rfl⟩, ?_⟩; conv => whnf) | fail)
        refine CallK.flat [] (f16 p.2 hpB) ⟨.same, trivial⟩ rfl ?_
        conv => whnf
        repeat (first | ((with_reducible first | apply ga | apply gb | apply gc | apply gd | apply ge | apply gf | apply gg | apply gh | apply gi | apply gj); conv => whnf) | (refine ⟨⟨rfl, rfl, nle rfl, nle rfl⟩, ?_⟩; conv => whnf) | fail)
        refine ⟨fun hn => ?_, fun hn => ?_⟩ <;> replace hn := nm hn <;> (try simp only [Int.toNat_zero] at hn) <;> (try simp only [Int.toNat_one] at hn)
        · conv => whnf
          repeat (first | ((with_reducible first | apply ga | apply gb | apply gc | apply gd | apply ge | apply gf | apply gg | apply gh | apply gi | apply gj); conv => whnf) | (refine ⟨⟨rfl, rfl, nle rfl, nle rfl⟩, ?_⟩; conv => whnf) | fail)
          have hR : scan s = (lz, (p.1 : Int), 5) := by rw [hI, scanF, if_pos (by omega), if_neg (by rw [hn]; decide)]
          rw [hR]
          exact done_tup [Line.av lz, i64 (p.1 : Int), i64 5] [] rfl ⟨agg5 .same .same .same .same .same, .same, .same, trivial⟩
        · conv => whnf
          repeat (first | ((with_reducible first | apply ga | apply gb | apply gc | apply gd | apply ge | apply gf | apply gg | apply gh | apply gi | apply gj); conv => whnf) | (refine ⟨⟨rfl, rfl, nle rfl, nle rfl⟩, ?_⟩; conv => whnf) | fail)
          refine ⟨fun e => absurd (((beq_eq_false_iff_ne.mpr (by omega) : ((m : Int) == 0) = false)).symm.trans e) (by decide), fun _ => ?_⟩
          conv => whnf
          repeat (first | ((with_reducible first | apply ga | apply gb | apply gc | apply gd | apply ge | apply gf | apply gg | apply gh | apply gi | apply gj); conv => whnf) | (refine ⟨⟨rfl, rfl, nle rfl, nle rfl⟩, ?_⟩; conv => whnf) | fail)
          refine CallK.flat [] (f41 p.2 (by omega)) ⟨.same, trivial⟩ rfl ?_
          conv => whnf
          repeat (first | ((with_reducible first | apply ga | apply gb | apply gc | apply gd | apply ge | apply gf | apply gg | apply gh | apply gi | apply gj); conv => whnf) | (refine ⟨⟨rfl, rfl, nle rfl, nle rfl⟩, ?_⟩; conv => whnf) | fail)
          refine ⟨⟨by unfold inI64; omega⟩, ?_⟩
          conv => whnf
          repeat (first | ((with_reducible first | apply ga | apply gb | apply gc | apply gd | apply ge | apply gf | apply gg | apply gh | apply gi | apply gj); conv => whnf) | (refine ⟨⟨rfl, rfl, nle rfl, nle rfl⟩, ?_⟩; conv => whnf) | fail)
          refine ⟨⟨?_, by show nx t + (pre ++ [[i64 p.1, st p.2]]).length ≤ 3; simp; omega⟩, ?_⟩
          · show scan s = scanF (F.drop (pre ++ [[i64 p.1, st p.2]]).length) (nx t + (pre ++ [[i64 p.1, st p.2]]).length) (outF (nx t) (F.take (pre ++ [[i64 p.1, st p.2]]).length) lz)
            rw [hI, scanF, if_pos (by omega), if_pos hn, hlen, hp3, outF_snoc, hlt, ← Nat.add_assoc, hm, ho]
          · show SubS _ (Sn t (nx t + (pre ++ [[i64 p.1, st p.2]]).length) (outF (nx t) (F.take (pre ++ [[i64 p.1, st p.2]]).length) lz))
            have hU : upd m p.2 o = { o with op := p.2 } := by unfold upd; rw [if_neg (by omega), if_pos (by omega)]
            rw [hlen, hp3, outF_snoc, hlt, ← Nat.add_assoc, hm, ho, hU]
            exact SubS.mk [] rfl ⟨⟨_, rfl, flds_le⟩, ⟨_, rfl, .ptr _ _ _ _ _ _ _ _ _ rfl rfl rfl rfl⟩, ⟨_, rfl, .ptr _ _ _ _ _ _ _ _ _ rfl rfl rfl rfl⟩, ⟨_, rfl, .ptr _ _ _ _ _ _ _ _ _ rfl rfl rfl rfl⟩, ⟨_, rfl, .ptr _ _ _ _ _ _ _ _ _ rfl rfl rfl rfl⟩, ⟨_, rfl, .ptr _ _ _ _ _ _ _ _ _ rfl rfl rfl rfl⟩, trivial⟩ ⟨.inl ⟨_, _, rfl, rfl, rfl, ole5 rfl rfl rfl rfl rfl rfl .same .same .same .same .same⟩, .inl ⟨_, _, rfl, rfl, rfl, ole1 rfl rfl rfl rfl rfl rfl .same⟩, .inl ⟨_, _, rfl, rfl, rfl, ole1 rfl rfl rfl rfl rfl rfl .same⟩, .inl ⟨_, _, rfl, rfl, rfl, ole5 rfl rfl rfl rfl rfl rfl .same .same .same .same .same⟩, .inl ⟨_, _, rfl, rfl, rfl, ole1 rfl rfl rfl rfl rfl rfl (.int (by omega))⟩, trivial⟩
      · conv => whnf
        repeat (first | ((with_reducible first | apply ga | apply gb | apply gc | apply gd | apply ge | apply gf | apply gg | apply gh | apply gi | apply gj); conv => whnf) | (refine ⟨⟨rfl, rfl, nle rfl, nle rfl⟩, ?_⟩; conv => whnf) | fail)
        refine ⟨fun h2 => ?_, fun h2 => ?_⟩ <;> replace h2 := nm h2 <;> (try simp only [Int.toNat_zero] at h2) <;> (try simp only [Int.toNat_one] at h2)
        · conv => whnf
          repeat (first | ((with_reducible first | apply ga | apply gb | apply gc | apply gd | apply ge | apply gf | apply gg | apply gh | apply gi | apply gj); conv => whnf) | (refine ⟨⟨rfl, rfl, nle rfl, nle rfl⟩, ?_⟩; conv => whnf) | fail)
          refine CallK.flat [] (f19 p.2 hpB) ⟨.same, trivial⟩ rfl ?_
          conv => whnf
          repeat (first | ((with_reducible first | apply ga | apply gb | apply gc | apply gd | apply ge | apply gf | apply gg | apply gh | apply gi | apply gj); conv => whnf) | (refine ⟨⟨rfl, rfl, nle rfl, nle rfl⟩, ?_⟩; conv => whnf) | fail)
          refine ⟨fun he => ?_, fun he => ?_⟩ <;> replace he := nm he <;> (try simp only [Int.toNat_zero] at he) <;> (try simp only [Int.toNat_one] at he)
          · conv => whnf
            repeat (first | ((with_reducible first | apply ga | apply gb | apply gc | apply gd | apply ge | apply gf | apply gg | apply gh | apply gi | apply gj); conv => whnf) | (refine ⟨⟨rfl, rfl, nle rfl, nle rfl⟩, ?_⟩; conv => whnf) | fail)
            refine ⟨⟨by unfold inI64; omega⟩, ?_⟩
            conv => whnf
            repeat (first | ((with_reducible first | apply ga | apply gb | apply gc | apply gd | apply ge | apply gf | apply gg | apply gh | apply gi | apply gj); conv => whnf) | (refine ⟨⟨rfl, rfl, nle rfl, nle rfl⟩, ?_⟩; conv => whnf) | fail)
            have hR : scan s = (lz, (p.1 : Int) + (opnd p.2).2.1, (opnd p.2).2.2) := by rw [hI, scanF, if_neg (by omega), if_pos (by omega), if_pos he]
            rw [hR]
            exact done_tup [Line.av lz, i64 ((p.1 : Int) + (opnd p.2).2.1), i64 (opnd p.2).2.2] [] rfl ⟨agg5 .same .same .same .same .same, .same, .same, trivial⟩
          · conv => whnf
            repeat (first | ((with_reducible first | apply ga | apply gb | apply gc | apply gd | apply ge | apply gf | apply gg | apply gh | apply gi | apply gj); conv => whnf) | (refine ⟨⟨rfl, rfl, nle rfl, nle rfl⟩, ?_⟩; conv => whnf) | fail)
            refine ⟨⟨by unfold inI64; omega⟩, ?_⟩
            conv => whnf
            repeat (first | ((with_reducible first | apply ga | apply gb | apply gc | apply gd | apply ge | apply gf | apply gg | apply gh | apply gi | apply gj); conv => whnf) | (refine ⟨⟨rfl, rfl, nle rfl, nle rfl⟩, ?_⟩; conv => whnf) | fail)
            refine ⟨⟨?_, by show nx t + (pre ++ [[i64 p.1, st p.2]]).length ≤ 3; simp; omega⟩, ?_⟩
            · show scan s = scanF (F.drop (pre ++ [[i64 p.1, st p.2]]).length) (nx t + (pre ++ [[i64 p.1, st p.2]]).length) (outF (nx t) (F.take (pre ++ [[i64 p.1, st p.2]]).length) lz)
              rw [hI, scanF, if_neg (by omega), if_pos (by omega), if_neg (fun h => h he), hlen, hp3, outF_snoc, hlt, ← Nat.add_assoc, hm, ho]
            · show SubS _ (Sn t (nx t + (pre ++ [[i64 p.1, st p.2]]).length) (outF (nx t) (F.take (pre ++ [[i64 p.1, st p.2]]).length) lz))
              have hU : upd m p.2 o = { o with arg := (opnd p.2).1 } := by unfold upd; rw [if_neg (by omega), if_neg (by omega)]
              rw [hlen, hp3, outF_snoc, hlt, ← Nat.add_assoc, hm, ho, hU]
              exact SubS.mk [] rfl ⟨⟨_, rfl, flds_le⟩, ⟨_, rfl, .ptr _ _ _ _ _ _ _ _ _ rfl rfl rfl rfl⟩, ⟨_, rfl, .ptr _ _ _ _ _ _ _ _ _ rfl rfl rfl rfl⟩, ⟨_, rfl, .ptr _ _ _ _ _ _ _ _ _ rfl rfl rfl rfl⟩, ⟨_, rfl, .ptr _ _ _ _ _ _ _ _ _ rfl rfl rfl rfl⟩, ⟨_, rfl, .ptr _ _ _ _ _ _ _ _ _ rfl rfl rfl rfl⟩, trivial⟩ ⟨.inl ⟨_, _, rfl, rfl, rfl, ole5 rfl rfl rfl rfl rfl rfl .same .same .same .same .same⟩, .inl ⟨_, _, rfl, rfl, rfl, ole1 rfl rfl rfl rfl rfl rfl .same⟩, .inl ⟨_, _, rfl, rfl, rfl, ole1 rfl rfl rfl rfl rfl rfl .same⟩, .inl ⟨_, _, rfl, rfl, rfl, ole5 rfl rfl rfl rfl rfl rfl .same .same .same .same .same⟩, .inl ⟨_, _, rfl, rfl, rfl, ole1 rfl rfl rfl rfl rfl rfl (.int (by omega))⟩, trivial⟩
        · conv => whnf
          repeat (first | ((with_reducible first | apply ga | apply gb | apply gc | apply gd | apply ge | apply gf | apply gg | apply gh | apply gi | apply gj); conv => whnf) | (refine ⟨⟨rfl, rfl, nle rfl, nle rfl⟩, ?_⟩; conv => whnf) | fail)
          have hR : scan s = (lz, (p.1 : Int), 5) := by rw [hI, scanF, if_neg (by omega), if_neg (by omega)]
          rw [hR]
          exact done_tup [Line.av lz, i64 (p.1 : Int), i64 5] [] rfl ⟨agg5 .same .same .same .same .same, .same, .same, trivial⟩
  · rintro xs ⟨hI, h3⟩ hfull
    rw [hF] at hfull
    subst hfull
    have hl : (logF F).length = F.length := by simp [logF]
    rw [hl, List.drop_length, List.take_length, scanF] at hI
    show blockQ 0 _ _ (Sn t (nx t + (logF F).length) (outF (nx t) (F.take (logF F).length) lz))
    rw [hl, List.take_length, hI]
    conv => whnf
    repeat (first | ((with_reducible first | apply ga | apply gb | apply gc | apply gd | apply ge | apply gf | apply gg | apply gh | apply gi | apply gj); conv => whnf) | (refine ⟨⟨rfl, rfl, nle rfl, nle rfl⟩, ?_⟩; conv => whnf) | fail)
    exact done_tup [Line.av (outF (nx t) F lz), i64 0, i64 0] [] rfl ⟨agg5 .same .same .same .same .same, .same, .same, trivial⟩
theorem f21 (s : List UInt8) (hs : B62 s) : PureCall Tryd.prog 21 [st s] (scanT (scan s)) := by
  refine PureCall.runC tab_ok mixed (by kernel_rfl) Tryd.func21 rfl rfl rfl 6 ?_
  conv => whnf
  repeat (first | ((with_reducible first | apply ga | apply gb | apply gc | apply gd | apply ge | apply gf | apply gg | apply gh | apply gi | apply gj); conv => whnf) | (refine ⟨⟨rfl, rfl, nle rfl, nle rfl⟩, ?_⟩; conv => whnf) | fail)
  refine ⟨fun hL => ?_, fun hL => ?_⟩ <;> replace hL := nm hL <;> (try simp only [Int.toNat_zero] at hL) <;> (try simp only [Int.toNat_one] at hL)
  · conv => whnf
    repeat (first | ((with_reducible first | apply ga | apply gb | apply gc | apply gd | apply ge | apply gf | apply gg | apply gh | apply gi | apply gj); conv => whnf) | (refine ⟨⟨rfl, rfl, nle rfl, nle rfl⟩, ?_⟩; conv => whnf) | fail)
    have hR : scan s = (lz, 120, 4) := by rw [scan, if_pos hL]
    rw [hR]
    exact done_tup [Line.av lz, i64 120, i64 4] [] rfl ⟨agg5 .same .same .same .same .same, .same, .same, trivial⟩
  · conv => whnf
    repeat (first | ((with_reducible first | apply ga | apply gb | apply gc | apply gd | apply ge | apply gf | apply gg | apply gh | apply gi | apply gj); conv => whnf) | (refine ⟨⟨rfl, rfl, nle rfl, nle rfl⟩, ?_⟩; conv => whnf) | fail)
    refine CallK.flat [] (f42 s hs 35) ⟨.same, .same, trivial⟩ rfl ?_
    conv => whnf
    repeat (first | ((with_reducible first | apply ga | apply gb | apply gc | apply gd | apply ge | apply gf | apply gg | apply gh | apply gi | apply gj); conv => whnf) | (refine ⟨⟨rfl, rfl, nle rfl, nle rfl⟩, ?_⟩; conv => whnf) | fail)
    obtain ⟨t, ht⟩ : ∃ t, bef 35 s = t := ⟨_, rfl⟩
    have htl : t.length ≤ 120 := by have := bef_le 35 s; rw [ht] at this; omega
    have hscan : scan s = scanF (fl t 0) (nx t) lz := by rw [scan, if_neg (by omega), ht]
    have key := f21_tail _ rfl s t _ rfl htl hscan
    rw [ht]
    refine ⟨fun h0 => ?_, fun h0 => ?_⟩ <;> replace h0 := nm h0 <;> (try simp only [Int.toNat_zero] at h0) <;> (try simp only [Int.toNat_one] at h0)
    · conv => whnf
      repeat (first | ((with_reducible first | apply ga | apply gb | apply gc | apply gd | apply ge | apply gf | apply gg | apply gh | apply gi | apply gj); conv => whnf) | (refine ⟨⟨rfl, rfl, nle rfl, nle rfl⟩, ?_⟩; conv => whnf) | fail)
      refine ⟨⟨by omega, by cases t with | nil => exact absurd rfl h0 | cons _ _ => simp⟩, ?_⟩
      conv => whnf
      repeat (first | ((with_reducible first | apply ga | apply gb | apply gc | apply gd | apply ge | apply gf | apply gg | apply gh | apply gi | apply gj); conv => whnf) | (refine ⟨⟨rfl, rfl, nle rfl, nle rfl⟩, ?_⟩; conv => whnf) | fail)
      refine CallK.flat [] (f43 (t.getD 0 0)) ⟨.same, trivial⟩ rfl ?_
      conv => whnf
      repeat (first | ((with_reducible first | apply ga | apply gb | apply gc | apply gd | apply ge | apply gf | apply gg | apply gh | apply gi | apply gj); conv => whnf) | (refine ⟨⟨rfl, rfl, nle rfl, nle rfl⟩, ?_⟩; conv => whnf) | fail)
      refine ⟨fun hb => ?_, fun hb => ?_⟩ <;> replace hb := nm hb <;> (try simp only [Int.toNat_zero] at hb) <;> (try simp only [Int.toNat_one] at hb)
      · conv => whnf
        repeat (first | ((with_reducible first | apply ga | apply gb | apply gc | apply gd | apply ge | apply gf | apply gg | apply gh | apply gi | apply gj); conv => whnf) | (refine ⟨⟨rfl, rfl, nle rfl, nle rfl⟩, ?_⟩; conv => whnf) | fail)
        have hn : nx t = 0 := by unfold nx; rw [hb]; simpa using h0
        rw [hn] at key
        exact AWP.sub (st' := Sc t 0) (SubS.mk [] rfl ⟨⟨_, rfl, .same⟩, ⟨_, rfl, .ptr _ _ _ _ _ _ _ _ _ rfl rfl rfl rfl⟩, ⟨_, rfl, .ptr _ _ _ _ _ _ _ _ _ rfl rfl rfl rfl⟩, ⟨_, rfl, .ptr _ _ _ _ _ _ _ _ _ rfl rfl rfl rfl⟩, ⟨_, rfl, .ptr _ _ _ _ _ _ _ _ _ rfl rfl rfl rfl⟩, ⟨_, rfl, .ptr _ _ _ _ _ _ _ _ _ rfl rfl rfl rfl⟩, trivial⟩ ⟨.inl ⟨_, _, rfl, rfl, rfl, ole5 rfl rfl rfl rfl rfl rfl .same .same .same .same .same⟩, .inl ⟨_, _, rfl, rfl, rfl, ole1 rfl rfl rfl rfl rfl rfl .same⟩, .inl ⟨_, _, rfl, rfl, rfl, ole1 rfl rfl rfl rfl rfl rfl .same⟩, .inl ⟨_, _, rfl, rfl, rfl, ole5 rfl rfl rfl rfl rfl rfl .same .same .same .same .same⟩, .inl ⟨_, _, rfl, rfl, rfl, ole1 rfl rfl rfl rfl rfl rfl (.same)⟩, trivial⟩) key
      · conv => whnf
        repeat (first | ((with_reducible first | apply ga | apply gb | apply gc | apply gd | apply ge | apply gf | apply gg | apply gh | apply gi | apply gj); conv => whnf) | (refine ⟨⟨rfl, rfl, nle rfl, nle rfl⟩, ?_⟩; conv => whnf) | fail)
        have hn : nx t = 1 := by unfold nx; rw [hb]; simp
        rw [hn] at key
        exact AWP.sub (st' := Sc t 1) (SubS.mk [] rfl ⟨⟨_, rfl, .same⟩, ⟨_, rfl, .ptr _ _ _ _ _ _ _ _ _ rfl rfl rfl rfl⟩, ⟨_, rfl, .ptr _ _ _ _ _ _ _ _ _ rfl rfl rfl rfl⟩, ⟨_, rfl, .ptr _ _ _ _ _ _ _ _ _ rfl rfl rfl rfl⟩, ⟨_, rfl, .ptr _ _ _ _ _ _ _ _ _ rfl rfl rfl rfl⟩, ⟨_, rfl, .ptr _ _ _ _ _ _ _ _ _ rfl rfl rfl rfl⟩, trivial⟩ ⟨.inl ⟨_, _, rfl, rfl, rfl, ole5 rfl rfl rfl rfl rfl rfl .same .same .same .same .same⟩, .inl ⟨_, _, rfl, rfl, rfl, ole1 rfl rfl rfl rfl rfl rfl .same⟩, .inl ⟨_, _, rfl, rfl, rfl, ole1 rfl rfl rfl rfl rfl rfl .same⟩, .inl ⟨_, _, rfl, rfl, rfl, ole5 rfl rfl rfl rfl rfl rfl .same .same .same .same .same⟩, .inl ⟨_, _, rfl, rfl, rfl, ole1 rfl rfl rfl rfl rfl rfl (.same)⟩, trivial⟩) key
    · conv => whnf
      repeat (first | ((with_reducible first | apply ga | apply gb | apply gc | apply gd | apply ge | apply gf | apply gg | apply gh | apply gi | apply gj); conv => whnf) | (refine ⟨⟨rfl, rfl, nle rfl, nle rfl⟩, ?_⟩; conv => whnf) | fail)
      have hn : nx t = 1 := by unfold nx; rw [h0]; rfl
      rw [hn] at key
      exact AWP.sub (st' := Sc t 1) (SubS.mk [] rfl ⟨⟨_, rfl, .same⟩, ⟨_, rfl, .ptr _ _ _ _ _ _ _ _ _ rfl rfl rfl rfl⟩, ⟨_, rfl, .ptr _ _ _ _ _ _ _ _ _ rfl rfl rfl rfl⟩, ⟨_, rfl, .ptr _ _ _ _ _ _ _ _ _ rfl rfl rfl rfl⟩, ⟨_, rfl, .ptr _ _ _ _ _ _ _ _ _ rfl rfl rfl rfl⟩, ⟨_, rfl, .ptr _ _ _ _ _ _ _ _ _ rfl rfl rfl rfl⟩, trivial⟩ ⟨.inl ⟨_, _, rfl, rfl, rfl, ole5 rfl rfl rfl rfl rfl rfl .same .same .same .same .same⟩, .inl ⟨_, _, rfl, rfl, rfl, ole1 rfl rfl rfl rfl rfl rfl .same⟩, .inl ⟨_, _, rfl, rfl, rfl, ole1 rfl rfl rfl rfl rfl rfl .same⟩, .inl ⟨_, _, rfl, rfl, rfl, ole5 rfl rfl rfl rfl rfl rfl .same .same .same .same .same⟩, .inl ⟨_, _, rfl, rfl, rfl, ole1 rfl rfl rfl rfl rfl rfl (.same)⟩, trivial⟩) key
end Go.Proofs.YtdoeiccibhabcaaDoor

namespace Go.Proofs.YtdoeiccibhabcaaDoor
open Go Go.AM
attribute [local irreducible] AWP CallK PureCall SubS HeapCall
def within (n : Int) : Bool := decide (-65535 ≤ n) && decide (n ≤ 65535)
theorem f58 (n : Int) : PureCall Tryd.prog 58 [i64 n] (bb (within n)) := by
  refine PureCall.run tab_ok mixed (by kernel_rfl) Tryd.func58 rfl rfl rfl ?_
  conv => whnf
  repeat (first | ((with_reducible first | apply ga | apply gb | apply gc | apply gd | apply ge | apply gf | apply gg | apply gh | apply gi | apply gj); conv => whnf) | (refine ⟨⟨rfl, rfl, nle rfl, nle rfl⟩, ?_⟩; conv => whnf) | fail)
  repeat' (first | ((with_reducible first | apply ga | apply gb | apply gc | apply gd | apply ge | apply gf | apply gg | apply gh | apply gi | apply gj); conv => whnf) | (refine ⟨fun hc => ?_, fun hc => ?_⟩ <;> (conv => whnf)) | fail)
  all_goals (refine done_bool _ _ rfl rfl ?_; simp_all [within]; try omega)
theorem f59 (n : Int) : PureCall Tryd.prog 59 [i64 n] (bb (within n)) := by
  refine PureCall.run tab_ok mixed (by kernel_rfl) Tryd.func59 rfl rfl rfl ?_
  conv => whnf
  repeat (first | ((with_reducible first | apply ga | apply gb | apply gc | apply gd | apply ge | apply gf | apply gg | apply gh | apply gi | apply gj); conv => whnf) | (refine ⟨⟨rfl, rfl, nle rfl, nle rfl⟩, ?_⟩; conv => whnf) | fail)
  repeat' (first | ((with_reducible first | apply ga | apply gb | apply gc | apply gd | apply ge | apply gf | apply gg | apply gh | apply gi | apply gj); conv => whnf) | (refine ⟨fun hc => ?_, fun hc => ?_⟩ <;> (conv => whnf)) | fail)
  all_goals (refine done_bool _ _ rfl rfl ?_; simp_all [within]; try omega)
theorem itoa_len {n : Int} (h : inI64 n) : (Lib.itoa n).length ≤ 21 := by
  unfold inI64 at h
  unfold Lib.itoa
  split
  · rw [List.length_cons, Lib.decDigits_length]
    have := Lib.nDigits_le20 n.natAbs (by omega)
    omega
  · rw [Lib.decDigits_length]
    have := Lib.nDigits_le20 n.toNat (by omega)
    omega
/-- An operand as a string. -/
def opStr (a : Arg) : List UInt8 × Bool :=
  if a.k = 0 then ([], a.nm == [] && a.v == 0)
  else if a.k = 1 then (32 :: Lib.itoa a.v, a.nm == [] && within a.v)
  else if a.k = 2 then (32 :: a.nm ++ (if 0 < a.v then [43] else []) ++ (if a.v = 0 then [] else Lib.itoa a.v), isName a.nm && within a.v)
  else ([], false)
def osT (x : List UInt8 × Bool) : AV := tupV [st x.1, bb x.2]
theorem f47 (a : Arg) (hv : inI64 a.v) (hn : B62 a.nm) : PureCall Tryd.prog 47 [a.av] (osT (opStr a)) := by
  have hn' := hn
  unfold B62 at hn'
  have hi := itoa_len hv
  refine PureCall.run tab_ok mixed (by kernel_rfl) Tryd.func47 rfl rfl rfl ?_
  conv => whnf
  repeat (first | ((with_reducible first | apply ga | apply gb | apply gc | apply gd | apply ge | apply gf | apply gg | apply gh | apply gi | apply gj); conv => whnf) | (refine ⟨⟨rfl, rfl, nle rfl, nle rfl⟩, ?_⟩; conv => whnf) | fail)
  refine ⟨fun h0 => ?_, fun h0 => ?_⟩ <;> replace h0 := nm h0 <;> (try simp only [Int.toNat_zero] at h0) <;> (try simp only [Int.toNat_one] at h0)
  · conv => whnf
    repeat (first | ((with_reducible first | apply ga | apply gb | apply gc | apply gd | apply ge | apply gf | apply gg | apply gh | apply gi | apply gj); conv => whnf) | (refine ⟨⟨rfl, rfl, nle rfl, nle rfl⟩, ?_⟩; conv => whnf) | fail)
    refine ⟨rfl, ?_⟩
    conv => whnf
    repeat (first | ((with_reducible first | apply ga | apply gb | apply gc | apply gd | apply ge | apply gf | apply gg | apply gh | apply gi | apply gj); conv => whnf) | (refine ⟨⟨rfl, rfl, nle rfl, nle rfl⟩, ?_⟩; conv => whnf) | fail)
    have hO : opStr a = ([], a.nm == [] && a.v == 0) := by rw [opStr, if_pos h0]
    rw [hO]
    exact done_tup [st [], bb (a.nm == [] && a.v == 0)] [] rfl ⟨.same, .bool (by rw [h0]; simp), trivial⟩
  · conv => whnf
    repeat (first | ((with_reducible first | apply ga | apply gb | apply gc | apply gd | apply ge | apply gf | apply gg | apply gh | apply gi | apply gj); conv => whnf) | (refine ⟨⟨rfl, rfl, nle rfl, nle rfl⟩, ?_⟩; conv => whnf) | fail)
    refine ⟨fun h1 => ?_, fun h1 => ?_⟩ <;> replace h1 := nm h1 <;> (try simp only [Int.toNat_zero] at h1) <;> (try simp only [Int.toNat_one] at h1)
    · conv => whnf
      repeat (first | ((with_reducible first | apply ga | apply gb | apply gc | apply gd | apply ge | apply gf | apply gg | apply gh | apply gi | apply gj); conv => whnf) | (refine ⟨⟨rfl, rfl, nle rfl, nle rfl⟩, ?_⟩; conv => whnf) | fail)
      refine ⟨_, [], ⟨_, f57 a.v hv, ⟨.same, trivial⟩, .inl rfl⟩, ?_⟩
      conv => whnf
      repeat (first | ((with_reducible first | apply ga | apply gb | apply gc | apply gd | apply ge | apply gf | apply gg | apply gh | apply gi | apply gj); conv => whnf) | (refine ⟨⟨rfl, rfl, nle rfl, nle rfl⟩, ?_⟩; conv => whnf) | fail)
      refine ⟨⟨by simp only [List.length_cons, List.length_nil]; omega⟩, ?_⟩
      conv => whnf
      repeat (first | ((with_reducible first | apply ga | apply gb | apply gc | apply gd | apply ge | apply gf | apply gg | apply gh | apply gi | apply gj); conv => whnf) | (refine ⟨⟨rfl, rfl, nle rfl, nle rfl⟩, ?_⟩; conv => whnf) | fail)
      refine ⟨fun hx => ?_, fun hx => ?_⟩ <;> replace hx := nm hx <;> (try simp only [Int.toNat_zero] at hx) <;> (try simp only [Int.toNat_one] at hx)
      · conv => whnf
        repeat (first | ((with_reducible first | apply ga | apply gb | apply gc | apply gd | apply ge | apply gf | apply gg | apply gh | apply gi | apply gj); conv => whnf) | (refine ⟨⟨rfl, rfl, nle rfl, nle rfl⟩, ?_⟩; conv => whnf) | fail)
        refine ⟨_, [], ⟨_, f58 a.v, ⟨.same, trivial⟩, .inl rfl⟩, ?_⟩
        conv => whnf
        repeat (first | ((with_reducible first | apply ga | apply gb | apply gc | apply gd | apply ge | apply gf | apply gg | apply gh | apply gi | apply gj); conv => whnf) | (refine ⟨⟨rfl, rfl, nle rfl, nle rfl⟩, ?_⟩; conv => whnf) | fail)
        refine ⟨rfl, ?_⟩
        conv => whnf
        repeat (first | ((with_reducible first | apply ga | apply gb | apply gc | apply gd | apply ge | apply gf | apply gg | apply gh | apply gi | apply gj); conv => whnf) | (refine ⟨⟨rfl, rfl, nle rfl, nle rfl⟩, ?_⟩; conv => whnf) | fail)
        have hO : opStr a = (32 :: Lib.itoa a.v, within a.v) := by rw [opStr, if_neg h0, if_pos h1, hx]; rfl
        rw [hO]
        exact done_tup [st (32 :: Lib.itoa a.v), bb (within a.v)] [] rfl ⟨.same, .same, trivial⟩
      · conv => whnf
        repeat (first | ((with_reducible first | apply ga | apply gb | apply gc | apply gd | apply ge | apply gf | apply gg | apply gh | apply gi | apply gj); conv => whnf) | (refine ⟨⟨rfl, rfl, nle rfl, nle rfl⟩, ?_⟩; conv => whnf) | fail)
        refine ⟨rfl, ?_⟩
        conv => whnf
        repeat (first | ((with_reducible first | apply ga | apply gb | apply gc | apply gd | apply ge | apply gf | apply gg | apply gh | apply gi | apply gj); conv => whnf) | (refine ⟨⟨rfl, rfl, nle rfl, nle rfl⟩, ?_⟩; conv => whnf) | fail)
        have hO : opStr a = (32 :: Lib.itoa a.v, false) := by rw [opStr, if_neg h0, if_pos h1, show (a.nm == []) = false by simpa using hx]; rfl
        rw [hO]
        exact done_tup [st (32 :: Lib.itoa a.v), bb false] [] rfl ⟨.same, .same, trivial⟩
    · conv => whnf
      repeat (first | ((with_reducible first | apply ga | apply gb | apply gc | apply gd | apply ge | apply gf | apply gg | apply gh | apply gi | apply gj); conv => whnf) | (refine ⟨⟨rfl, rfl, nle rfl, nle rfl⟩, ?_⟩; conv => whnf) | fail)
      refine ⟨fun h2 => ?_, fun h2 => ?_⟩ <;> replace h2 := nm h2 <;> (try simp only [Int.toNat_zero] at h2) <;> (try simp only [Int.toNat_one] at h2)
      · conv => whnf
        repeat (first | ((with_reducible first | apply ga | apply gb | apply gc | apply gd | apply ge | apply gf | apply gg | apply gh | apply gi | apply gj); conv => whnf) | (refine ⟨⟨rfl, rfl, nle rfl, nle rfl⟩, ?_⟩; conv => whnf) | fail)
        refine ⟨⟨by simp only [List.length_cons, List.length_nil]; omega⟩, ?_⟩
        conv => whnf
        repeat (first | ((with_reducible first | apply ga | apply gb | apply gc | apply gd | apply ge | apply gf | apply gg | apply gh | apply gi | apply gj); conv => whnf) | (refine ⟨⟨rfl, rfl, nle rfl, nle rfl⟩, ?_⟩; conv => whnf) | fail)
        refine ⟨fun hp => ?_, fun hp => ?_⟩ <;> replace hp := nm hp <;> (try simp only [Int.toNat_zero] at hp) <;> (try simp only [Int.toNat_one] at hp)
        · conv => whnf
          repeat (first | ((with_reducible first | apply ga | apply gb | apply gc | apply gd | apply ge | apply gf | apply gg | apply gh | apply gi | apply gj); conv => whnf) | (refine ⟨⟨rfl, rfl, nle rfl, nle rfl⟩, ?_⟩; conv => whnf) | fail)
          refine ⟨⟨by simp only [List.length_append, List.length_cons, List.length_nil]; omega⟩, ?_⟩
          conv => whnf
          repeat (first | ((with_reducible first | apply ga | apply gb | apply gc | apply gd | apply ge | apply gf | apply gg | apply gh | apply gi | apply gj); conv => whnf) | (refine ⟨⟨rfl, rfl, nle rfl, nle rfl⟩, ?_⟩; conv => whnf) | fail)
          refine ⟨fun hz => ?_, fun hz => ?_⟩ <;> replace hz := nm hz <;> (try simp only [Int.toNat_zero] at hz) <;> (try simp only [Int.toNat_one] at hz)
          · conv => whnf
            repeat (first | ((with_reducible first | apply ga | apply gb | apply gc | apply gd | apply ge | apply gf | apply gg | apply gh | apply gi | apply gj); conv => whnf) | (refine ⟨⟨rfl, rfl, nle rfl, nle rfl⟩, ?_⟩; conv => whnf) | fail)
            refine CallK.flat [] (f57 a.v hv) ⟨.same, trivial⟩ rfl ?_
            conv => whnf
            repeat (first | ((with_reducible first | apply ga | apply gb | apply gc | apply gd | apply ge | apply gf | apply gg | apply gh | apply gi | apply gj); conv => whnf) | (refine ⟨⟨rfl, rfl, nle rfl, nle rfl⟩, ?_⟩; conv => whnf) | fail)
            refine ⟨⟨by simp only [List.length_append, List.length_cons, List.length_nil]; omega⟩, ?_⟩
            conv => whnf
            repeat (first | ((with_reducible first | apply ga | apply gb | apply gc | apply gd | apply ge | apply gf | apply gg | apply gh | apply gi | apply gj); conv => whnf) | (refine ⟨⟨rfl, rfl, nle rfl, nle rfl⟩, ?_⟩; conv => whnf) | fail)
            refine CallK.flat [] (f16 a.nm hn) ⟨.same, trivial⟩ rfl ?_
            conv => whnf
            repeat (first | ((with_reducible first | apply ga | apply gb | apply gc | apply gd | apply ge | apply gf | apply gg | apply gh | apply gi | apply gj); conv => whnf) | (refine ⟨⟨rfl, rfl, nle rfl, nle rfl⟩, ?_⟩; conv => whnf) | fail)
            refine ⟨fun hx => ?_, fun hx => ?_⟩ <;> replace hx := nm hx <;> (try simp only [Int.toNat_zero] at hx) <;> (try simp only [Int.toNat_one] at hx)
            · conv => whnf
              repeat (first | ((with_reducible first | apply ga | apply gb | apply gc | apply gd | apply ge | apply gf | apply gg | apply gh | apply gi | apply gj); conv => whnf) | (refine ⟨⟨rfl, rfl, nle rfl, nle rfl⟩, ?_⟩; conv => whnf) | fail)
              refine CallK.flat [] (f58 a.v) ⟨.same, trivial⟩ rfl ?_
              conv => whnf
              repeat (first | ((with_reducible first | apply ga | apply gb | apply gc | apply gd | apply ge | apply gf | apply gg | apply gh | apply gi | apply gj); conv => whnf) | (refine ⟨⟨rfl, rfl, nle rfl, nle rfl⟩, ?_⟩; conv => whnf) | fail)
              have hO : opStr a = (((32 :: a.nm) ++ [43]) ++ Lib.itoa a.v, within a.v) := by rw [opStr, if_neg h0, if_neg h1, if_pos h2, hx, Bool.true_and]; rw [if_pos hp, if_neg (by omega)]
              rw [hO]
              exact done_tup [st (((32 :: a.nm) ++ [43]) ++ Lib.itoa a.v), bb (within a.v)] [] rfl ⟨.same, .same, trivial⟩
            · conv => whnf
              repeat (first | ((with_reducible first | apply ga | apply gb | apply gc | apply gd | apply ge | apply gf | apply gg | apply gh | apply gi | apply gj); conv => whnf) | (refine ⟨⟨rfl, rfl, nle rfl, nle rfl⟩, ?_⟩; conv => whnf) | fail)
              have hO : opStr a = (((32 :: a.nm) ++ [43]) ++ Lib.itoa a.v, false) := by rw [opStr, if_neg h0, if_neg h1, if_pos h2, hx, Bool.false_and]; rw [if_pos hp, if_neg (by omega)]
              rw [hO]
              exact done_tup [st (((32 :: a.nm) ++ [43]) ++ Lib.itoa a.v), bb false] [] rfl ⟨.same, .same, trivial⟩
          · exfalso; omega
        · conv => whnf
          repeat (first | ((with_reducible first | apply ga | apply gb | apply gc | apply gd | apply ge | apply gf | apply gg | apply gh | apply gi | apply gj); conv => whnf) | (refine ⟨⟨rfl, rfl, nle rfl, nle rfl⟩, ?_⟩; conv => whnf) | fail)
          refine ⟨fun hz => ?_, fun hz => ?_⟩ <;> replace hz := nm hz <;> (try simp only [Int.toNat_zero] at hz) <;> (try simp only [Int.toNat_one] at hz)
          · conv => whnf
            repeat (first | ((with_reducible first | apply ga | apply gb | apply gc | apply gd | apply ge | apply gf | apply gg | apply gh | apply gi | apply gj); conv => whnf) | (refine ⟨⟨rfl, rfl, nle rfl, nle rfl⟩, ?_⟩; conv => whnf) | fail)
            refine CallK.flat [] (f57 a.v hv) ⟨.same, trivial⟩ rfl ?_
            conv => whnf
            repeat (first | ((with_reducible first | apply ga | apply gb | apply gc | apply gd | apply ge | apply gf | apply gg | apply gh | apply gi | apply gj); conv => whnf) | (refine ⟨⟨rfl, rfl, nle rfl, nle rfl⟩, ?_⟩; conv => whnf) | fail)
            refine ⟨⟨by simp only [List.length_append, List.length_cons, List.length_nil]; omega⟩, ?_⟩
            conv => whnf
            repeat (first | ((with_reducible first | apply ga | apply gb | apply gc | apply gd | apply ge | apply gf | apply gg | apply gh | apply gi | apply gj); conv => whnf) | (refine ⟨⟨rfl, rfl, nle rfl, nle rfl⟩, ?_⟩; conv => whnf) | fail)
            refine CallK.flat [] (f16 a.nm hn) ⟨.same, trivial⟩ rfl ?_
            conv => whnf
            repeat (first | ((with_reducible first | apply ga | apply gb | apply gc | apply gd | apply ge | apply gf | apply gg | apply gh | apply gi | apply gj); conv => whnf) | (refine ⟨⟨rfl, rfl, nle rfl, nle rfl⟩, ?_⟩; conv => whnf) | fail)
            refine ⟨fun hx => ?_, fun hx => ?_⟩ <;> replace hx := nm hx <;> (try simp only [Int.toNat_zero] at hx) <;> (try simp only [Int.toNat_one] at hx)
            · conv => whnf
              repeat (first | ((with_reducible first | apply ga | apply gb | apply gc | apply gd | apply ge | apply gf | apply gg | apply gh | apply gi | apply gj); conv => whnf) | (refine ⟨⟨rfl, rfl, nle rfl, nle rfl⟩, ?_⟩; conv => whnf) | fail)
              refine CallK.flat [] (f58 a.v) ⟨.same, trivial⟩ rfl ?_
              conv => whnf
              repeat (first | ((with_reducible first | apply ga | apply gb | apply gc | apply gd | apply ge | apply gf | apply gg | apply gh | apply gi | apply gj); conv => whnf) | (refine ⟨⟨rfl, rfl, nle rfl, nle rfl⟩, ?_⟩; conv => whnf) | fail)
              have hO : opStr a = ((32 :: a.nm) ++ Lib.itoa a.v, within a.v) := by rw [opStr, if_neg h0, if_neg h1, if_pos h2, hx, Bool.true_and]; rw [if_neg (by omega), if_neg hz, List.append_nil]
              rw [hO]
              exact done_tup [st ((32 :: a.nm) ++ Lib.itoa a.v), bb (within a.v)] [] rfl ⟨.same, .same, trivial⟩
            · conv => whnf
              repeat (first | ((with_reducible first | apply ga | apply gb | apply gc | apply gd | apply ge | apply gf | apply gg | apply gh | apply gi | apply gj); conv => whnf) | (refine ⟨⟨rfl, rfl, nle rfl, nle rfl⟩, ?_⟩; conv => whnf) | fail)
              have hO : opStr a = ((32 :: a.nm) ++ Lib.itoa a.v, false) := by rw [opStr, if_neg h0, if_neg h1, if_pos h2, hx, Bool.false_and]; rw [if_neg (by omega), if_neg hz, List.append_nil]
              rw [hO]
              exact done_tup [st ((32 :: a.nm) ++ Lib.itoa a.v), bb false] [] rfl ⟨.same, .same, trivial⟩
          · conv => whnf
            repeat (first | ((with_reducible first | apply ga | apply gb | apply gc | apply gd | apply ge | apply gf | apply gg | apply gh | apply gi | apply gj); conv => whnf) | (refine ⟨⟨rfl, rfl, nle rfl, nle rfl⟩, ?_⟩; conv => whnf) | fail)
            refine CallK.flat [] (f16 a.nm hn) ⟨.same, trivial⟩ rfl ?_
            conv => whnf
            repeat (first | ((with_reducible first | apply ga | apply gb | apply gc | apply gd | apply ge | apply gf | apply gg | apply gh | apply gi | apply gj); conv => whnf) | (refine ⟨⟨rfl, rfl, nle rfl, nle rfl⟩, ?_⟩; conv => whnf) | fail)
            refine ⟨fun hx => ?_, fun hx => ?_⟩ <;> replace hx := nm hx <;> (try simp only [Int.toNat_zero] at hx) <;> (try simp only [Int.toNat_one] at hx)
            · conv => whnf
              repeat (first | ((with_reducible first | apply ga | apply gb | apply gc | apply gd | apply ge | apply gf | apply gg | apply gh | apply gi | apply gj); conv => whnf) | (refine ⟨⟨rfl, rfl, nle rfl, nle rfl⟩, ?_⟩; conv => whnf) | fail)
              refine CallK.flat [] (f58 a.v) ⟨.same, trivial⟩ rfl ?_
              conv => whnf
              repeat (first | ((with_reducible first | apply ga | apply gb | apply gc | apply gd | apply ge | apply gf | apply gg | apply gh | apply gi | apply gj); conv => whnf) | (refine ⟨⟨rfl, rfl, nle rfl, nle rfl⟩, ?_⟩; conv => whnf) | fail)
              have hO : opStr a = (32 :: a.nm, within a.v) := by rw [opStr, if_neg h0, if_neg h1, if_pos h2, hx, Bool.true_and]; rw [if_neg (by omega), if_pos hz, List.append_nil, List.append_nil]
              rw [hO]
              exact done_tup [st (32 :: a.nm), bb (within a.v)] [] rfl ⟨.same, .same, trivial⟩
            · conv => whnf
              repeat (first | ((with_reducible first | apply ga | apply gb | apply gc | apply gd | apply ge | apply gf | apply gg | apply gh | apply gi | apply gj); conv => whnf) | (refine ⟨⟨rfl, rfl, nle rfl, nle rfl⟩, ?_⟩; conv => whnf) | fail)
              have hO : opStr a = (32 :: a.nm, false) := by rw [opStr, if_neg h0, if_neg h1, if_pos h2, hx, Bool.false_and]; rw [if_neg (by omega), if_pos hz, List.append_nil, List.append_nil]
              rw [hO]
              exact done_tup [st (32 :: a.nm), bb false] [] rfl ⟨.same, .same, trivial⟩
      · conv => whnf
        repeat (first | ((with_reducible first | apply ga | apply gb | apply gc | apply gd | apply ge | apply gf | apply gg | apply gh | apply gi | apply gj); conv => whnf) | (refine ⟨⟨rfl, rfl, nle rfl, nle rfl⟩, ?_⟩; conv => whnf) | fail)
        have hO : opStr a = ([], false) := by rw [opStr, if_neg h0, if_neg h1, if_neg h2]
        rw [hO]
        exact done_tup [st [], bb false] [] rfl ⟨.same, .same, trivial⟩
end Go.Proofs.YtdoeiccibhabcaaDoor

namespace Go.Proofs.YtdoeiccibhabcaaDoor
open Go Go.AM
attribute [local irreducible] AWP CallK PureCall SubS HeapCall
def bad (l : Line) : Bool := !(opStr l.arg).2 || (!(l.lab == []) && !(isName l.lab)) || ((l.op == []) && !((opStr l.arg).1 == [])) || (!(l.op == []) && !(isName l.op))
/-- A line as a string. -/
def print (l : Line) : List UInt8 × Int := if bad l then ([], 2) else if l.op == [] then (l.lab, 0) else (l.lab ++ [32] ++ l.op ++ (opStr l.arg).1, 0)
def prT (x : List UInt8 × Int) : AV := tupV [st x.1, i64 x.2]
def LineB (l : Line) : Prop := l.lab.length < 2 ^ 48 ∧ l.op.length < 2 ^ 48 ∧ l.arg.nm.length < 2 ^ 48 ∧ inI64 l.arg.v
theorem opStr_len {a : Arg} (hv : inI64 a.v) : (opStr a).1.length ≤ a.nm.length + 30 := by
  have := itoa_len hv
  unfold opStr
  split
  · simp
  · split
    · simp; omega
    · split
      · simp only [List.length_append, List.length_cons]
        split <;> split <;> simp <;> omega
      · simp
set_option maxHeartbeats 2000000 in
theorem f23 (l : Line) (h : LineB l) : PureCall Tryd.prog 23 [l.av] (prT (print l)) := by
  obtain ⟨h1, h2, h3, h4⟩ := h
  have hlab : B62 l.lab := by unfold B62; omega
  have hop : B62 l.op := by unfold B62; omega
  have hsl := opStr_len h4
  refine PureCall.run tab_ok mixed (by kernel_rfl) Tryd.func23 rfl rfl rfl ?_
  conv => whnf
  repeat (first | ((with_reducible first | apply ga | apply gb | apply gc | apply gd | apply ge | apply gf | apply gg | apply gh | apply gi | apply gj); conv => whnf) | (refine ⟨⟨rfl, rfl, nle rfl, nle rfl⟩, ?_⟩; conv => whnf) | fail)
  refine CallK.flat [] (f47 l.arg h4 (by unfold B62; omega)) ⟨agg3 .same .same .same, trivial⟩ rfl ?_
  conv => whnf
  repeat (first | ((with_reducible first | apply ga | apply gb | apply gc | apply gd | apply ge | apply gf | apply gg | apply gh | apply gi | apply gj); conv => whnf) | (refine ⟨⟨rfl, rfl, nle rfl, nle rfl⟩, ?_⟩; conv => whnf) | fail)
  repeat' (first | ((with_reducible first | apply ga | apply gb | apply gc | apply gd | apply ge | apply gf | apply gg | apply gh | apply gi | apply gj); conv => whnf) | (refine ⟨⟨rfl, rfl, nle rfl, nle rfl⟩, ?_⟩; conv => whnf) | (refine CallK.flat [] (f16 l.lab hlab) ⟨.same, trivial⟩ rfl ?_; conv => whnf) | (refine CallK.flat [] (f16 l.op hop) ⟨.same, trivial⟩ rfl ?_; conv => whnf) | (refine ⟨fun hc => ?_, fun hc => ?_⟩ <;> (conv => whnf)) | fail)
  all_goals first
    | (have hO : print l = ([], 2) := by simp_all [print, bad]
       rw [hO]; exact done_tup [st [], i64 2] [] rfl ⟨.same, .same, trivial⟩)
    | (have hO : print l = (l.lab, 0) := by simp_all [print, bad]
       rw [hO]; exact done_tup [st l.lab, i64 0] [] rfl ⟨.same, .same, trivial⟩)
    | (refine ⟨⟨by simp only [List.length_append, List.length_cons, List.length_nil]; omega⟩, ?_⟩
       conv => whnf
       repeat (refine ⟨⟨rfl, rfl, nle rfl, nle rfl⟩, ?_⟩; conv => whnf)
       refine ⟨⟨by simp only [List.length_append, List.length_cons, List.length_nil]; omega⟩, ?_⟩
       conv => whnf
       refine ⟨⟨by simp only [List.length_append, List.length_cons, List.length_nil]; omega⟩, ?_⟩
       conv => whnf
       have hO : print l = (l.lab ++ [32] ++ l.op ++ (opStr l.arg).1, 0) := by simp_all [print, bad]
       rw [hO]; exact done_tup [st (l.lab ++ [32] ++ l.op ++ (opStr l.arg).1), i64 0] [] rfl ⟨.same, .same, trivial⟩)
end Go.Proofs.YtdoeiccibhabcaaDoor

namespace Go.Proofs.YtdoeiccibhabcaaDoor
open Go Go.AM
attribute [local irreducible] AWP CallK PureCall SubS HeapCall
def s1 : List UInt8 := [76, 79, 79, 80, 32, 32, 67, 67, 83, 32, 32, 78, 45, 49, 32, 32, 35, 32, 99, 111, 117, 110, 116]
def s2 : List UInt8 := [32, 32, 84, 67, 32, 76, 79, 79, 80, 32, 88]
theorem e1 : scan s1 = (⟨[76, 79, 79, 80], [67, 67, 83], ⟨2, [78], -1⟩⟩, 0, 0) := by kernel_rfl
theorem e2 : scan s2 = (lz, 10, 5) := by kernel_rfl
theorem e3 : num [48, 111, 49, 55] = (15, 0) := by kernel_rfl
def l4 : Line := ⟨[], [84, 67], ⟨2, [66], 0⟩⟩
theorem e4 : print l4 = ([32, 84, 67, 32, 66], 0) := by kernel_rfl
theorem c1 : PureCall Tryd.prog 21 [st s1] (scanT (⟨[76, 79, 79, 80], [67, 67, 83], ⟨2, [78], -1⟩⟩, 0, 0)) := by rw [← e1]; exact f21 _ (by unfold B62; decide)
theorem c2 : PureCall Tryd.prog 21 [st s2] (scanT (lz, 10, 5)) := by rw [← e2]; exact f21 _ (by unfold B62; decide)
theorem c3 : PureCall Tryd.prog 14 [st [48, 111, 49, 55]] (numT (15, 0)) := by rw [← e3]; exact f14 _ (by unfold B62; decide)
theorem c4 : PureCall Tryd.prog 23 [l4.av] (prT ([32, 84, 67, 32, 66], 0)) := by rw [← e4]; exact f23 _ ⟨by decide, by decide, by decide, by unfold inI64; decide⟩
theorem f18 : PureCall Tryd.prog 18 [] (bb true) := by
  refine PureCall.run tab_ok mixed (by kernel_rfl) Tryd.func18 rfl rfl rfl ?_
  conv => whnf
  repeat (first | ((with_reducible first | apply ga | apply gb | apply gc | apply gd | apply ge | apply gf | apply gg | apply gh | apply gi | apply gj); conv => whnf) | (refine ⟨⟨rfl, rfl, nle rfl, nle rfl⟩, ?_⟩; conv => whnf) | fail)
  refine CallK.flat [] c1 ⟨.same, trivial⟩ rfl ?_
  conv => whnf
  repeat (first | ((with_reducible first | apply ga | apply gb | apply gc | apply gd | apply ge | apply gf | apply gg | apply gh | apply gi | apply gj); conv => whnf) | (refine ⟨⟨rfl, rfl, nle rfl, nle rfl⟩, ?_⟩; conv => whnf) | fail)
  refine CallK.flat [] c2 ⟨.same, trivial⟩ rfl ?_
  conv => whnf
  repeat (first | ((with_reducible first | apply ga | apply gb | apply gc | apply gd | apply ge | apply gf | apply gg | apply gh | apply gi | apply gj); conv => whnf) | (refine ⟨⟨rfl, rfl, nle rfl, nle rfl⟩, ?_⟩; conv => whnf) | fail)
  refine CallK.flat [] c3 ⟨.same, trivial⟩ rfl ?_
  conv => whnf
  repeat (first | ((with_reducible first | apply ga | apply gb | apply gc | apply gd | apply ge | apply gf | apply gg | apply gh | apply gi | apply gj); conv => whnf) | (refine ⟨⟨rfl, rfl, nle rfl, nle rfl⟩, ?_⟩; conv => whnf) | fail)
  refine CallK.flat [] c4 ⟨agg5 .same .same .same .same .same, trivial⟩ rfl ?_
  conv => whnf
  repeat (first | ((with_reducible first | apply ga | apply gb | apply gc | apply gd | apply ge | apply gf | apply gg | apply gh | apply gi | apply gj); conv => whnf) | (refine ⟨⟨rfl, rfl, nle rfl, nle rfl⟩, ?_⟩; conv => whnf) | fail)
  repeat (first | ((with_reducible first | apply ga | apply gb | apply gc | apply gd | apply ge | apply gf | apply gg | apply gh | apply gi | apply gj); conv => whnf) | (refine ⟨⟨rfl, rfl, nle rfl, nle rfl⟩, ?_⟩; conv => whnf) | (refine ⟨fun _ => ?_, fun h => absurd h (by decide)⟩; conv => whnf) | (refine ⟨fun h => absurd h (by decide), fun _ => ?_⟩; conv => whnf) | fail)
  exact done_bool _ _ rfl rfl rfl
end Go.Proofs.YtdoeiccibhabcaaDoor

namespace Go.Proofs.YtdoeiccibhabcaaDoor
open Go Go.AM
attribute [local irreducible] AWP CallK PureCall SubS HeapCall
theorem f3 (s : List UInt8) (hs : B62 s) : PureCall Tryd.prog 3 [st s] (bb true) := by
  refine PureCall.run tab_ok mixed (by kernel_rfl) Tryd.func3 rfl rfl rfl ?_
  conv => whnf
  repeat (first | ((with_reducible first | apply ga | apply gb | apply gc | apply gd | apply ge | apply gf | apply gg | apply gh | apply gi | apply gj); conv => whnf) | (refine ⟨⟨rfl, rfl, nle rfl, nle rfl⟩, ?_⟩; conv => whnf) | fail)
  refine CallK.flat [] (f14 s hs) ⟨.same, trivial⟩ rfl ?_
  conv => whnf
  repeat (first | ((with_reducible first | apply ga | apply gb | apply gc | apply gd | apply ge | apply gf | apply gg | apply gh | apply gi | apply gj); conv => whnf) | (refine ⟨⟨rfl, rfl, nle rfl, nle rfl⟩, ?_⟩; conv => whnf) | fail)
  refine CallK.flat [] (f15 s hs) ⟨.same, trivial⟩ rfl ?_
  conv => whnf
  repeat (first | ((with_reducible first | apply ga | apply gb | apply gc | apply gd | apply ge | apply gf | apply gg | apply gh | apply gi | apply gj); conv => whnf) | (refine ⟨⟨rfl, rfl, nle rfl, nle rfl⟩, ?_⟩; conv => whnf) | fail)
  repeat (first | ((with_reducible first | apply ga | apply gb | apply gc | apply gd | apply ge | apply gf | apply gg | apply gh | apply gi | apply gj); conv => whnf) | (refine ⟨⟨rfl, rfl, nle rfl, nle rfl⟩, ?_⟩; conv => whnf) | (refine CallK.flat [] (f16 s hs) ⟨.same, trivial⟩ rfl ?_; conv => whnf) | (refine CallK.flat [] (f17 s hs) ⟨.same, trivial⟩ rfl ?_; conv => whnf) | (refine CallK.flat [] f18 trivial rfl ?_; conv => whnf) | (refine ⟨fun _ => ?_, fun h => absurd h (by simp)⟩; conv => whnf) | fail)
  exact done_bool _ _ rfl rfl rfl
theorem f4 (s : List UInt8) (hs : B62 s) : PureCall Tryd.prog 4 [st s] (bb true) := by
  refine PureCall.run tab_ok mixed (by kernel_rfl) Tryd.func4 rfl rfl rfl ?_
  conv => whnf
  repeat (first | ((with_reducible first | apply ga | apply gb | apply gc | apply gd | apply ge | apply gf | apply gg | apply gh | apply gi | apply gj); conv => whnf) | (refine ⟨⟨rfl, rfl, nle rfl, nle rfl⟩, ?_⟩; conv => whnf) | fail)
  refine CallK.flat [] (f19 s hs) ⟨.same, trivial⟩ rfl ?_
  conv => whnf
  repeat (first | ((with_reducible first | apply ga | apply gb | apply gc | apply gd | apply ge | apply gf | apply gg | apply gh | apply gi | apply gj); conv => whnf) | (refine ⟨⟨rfl, rfl, nle rfl, nle rfl⟩, ?_⟩; conv => whnf) | fail)
  refine CallK.flat [] (f20 s hs) ⟨.same, trivial⟩ rfl ?_
  conv => whnf
  repeat (first | ((with_reducible first | apply ga | apply gb | apply gc | apply gd | apply ge | apply gf | apply gg | apply gh | apply gi | apply gj); conv => whnf) | (refine ⟨⟨rfl, rfl, nle rfl, nle rfl⟩, ?_⟩; conv => whnf) | fail)
  repeat (first | ((with_reducible first | apply ga | apply gb | apply gc | apply gd | apply ge | apply gf | apply gg | apply gh | apply gi | apply gj); conv => whnf) | (refine ⟨⟨rfl, rfl, nle rfl, nle rfl⟩, ?_⟩; conv => whnf) | (refine CallK.flat [] f18 trivial rfl ?_; conv => whnf) | (refine ⟨fun _ => ?_, fun h => absurd h (by simp)⟩; conv => whnf) | fail)
  exact done_bool _ _ rfl rfl rfl
end Go.Proofs.YtdoeiccibhabcaaDoor
