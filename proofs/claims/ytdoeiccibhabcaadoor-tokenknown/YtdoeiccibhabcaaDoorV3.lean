/- Part of the proof: what the functions that the law calls compute (3). -/
import Derived.Test.YtdoeiccibhabcaaDoorV2
namespace Go.Proofs.YtdoeiccibhabcaaDoor
open Go Go.AM
attribute [local irreducible] AWP CallK PureCall SubS HeapCall
def digs : List UInt8 := [48, 49, 50, 51, 52, 53, 54, 55, 56, 57]
theorem digs_at : ∀ n : Nat, n < 10 → (digs.take (n + 1)).drop n = [UInt8.ofNat (48 + n)] := by decide
theorem dec_big {u : Nat} (h : ¬ u < 10) : Lib.decDigits u = Lib.decDigits (u / 10) ++ Lib.decDigits (u % 10) := by
  rw [Lib.decDigits_one (i := u % 10) (by omega)]
  conv => lhs; rw [Lib.decDigits, dif_neg h]
theorem f27n : ∀ (u : Nat), u ≤ 65535 → PureCall Tryd.prog 27 [i64 u] (st (Lib.itoa u)) := by
  intro u
  induction u using Nat.strongRecOn with
  | ind u ih =>
    intro hu
    have hl : ∀ k : Nat, k ≤ 65535 → (Lib.itoa (k : Int)).length ≤ 21 := fun k hk => itoa_len (by unfold inI64; omega)
    refine PureCall.run tab_ok mixed (by kernel_rfl) Tryd.func27 rfl rfl rfl ?_
    conv => whnf
    repeat (first | ((with_reducible first | apply ga | apply gb | apply gc | apply gd | apply ge | apply gf | apply gg | apply gh | apply gi | apply gj); conv => whnf) | (refine ⟨⟨rfl, rfl, nle rfl, nle rfl⟩, ?_⟩; conv => whnf) | fail)
    refine ⟨fun hn => ?_, fun hn => ?_⟩ <;> replace hn := nm hn <;> (try simp only [Int.toNat_zero] at hn) <;> (try simp only [Int.toNat_one] at hn)
    · exfalso; omega
    · conv => whnf
      repeat (first | ((with_reducible first | apply ga | apply gb | apply gc | apply gd | apply ge | apply gf | apply gg | apply gh | apply gi | apply gj); conv => whnf) | (refine ⟨⟨rfl, rfl, nle rfl, nle rfl⟩, ?_⟩; conv => whnf) | fail)
      refine ⟨fun h10 => ?_, fun h10 => ?_⟩ <;> replace h10 := nm h10 <;> (try simp only [Int.toNat_zero] at h10) <;> (try simp only [Int.toNat_one] at h10)
      · conv => whnf
        repeat (first | ((with_reducible first | apply ga | apply gb | apply gc | apply gd | apply ge | apply gf | apply gg | apply gh | apply gi | apply gj); conv => whnf) | (refine ⟨⟨rfl, rfl, nle rfl, nle rfl⟩, ?_⟩; conv => whnf) | fail)
        refine ⟨⟨by unfold inI64; omega⟩, ?_⟩
        conv => whnf
        repeat (first | ((with_reducible first | apply ga | apply gb | apply gc | apply gd | apply ge | apply gf | apply gg | apply gh | apply gi | apply gj); conv => whnf) | (refine ⟨⟨rfl, rfl, nle rfl, nle rfl⟩, ?_⟩; conv => whnf) | fail)
        refine ⟨⟨by omega, by omega, by simp only [List.length_cons, List.length_nil]; omega⟩, ?_⟩
        conv => whnf
        repeat (first | ((with_reducible first | apply ga | apply gb | apply gc | apply gd | apply ge | apply gf | apply gg | apply gh | apply gi | apply gj); conv => whnf) | (refine ⟨⟨rfl, rfl, nle rfl, nle rfl⟩, ?_⟩; conv => whnf) | fail)
        have hE : Lib.itoa (u : Int) = (digs.take ((u : Int) + 1).toNat).drop (u : Int).toNat := by
          rw [Lib.itoa_nonneg, show ((u : Int) + 1).toNat = u + 1 by omega, show ((u : Int)).toNat = u by omega, digs_at u (by omega), Lib.decDigits_one (by omega)]
        rw [hE]
        exact ⟨[], .same⟩
      · conv => whnf
        repeat (first | ((with_reducible first | apply ga | apply gb | apply gc | apply gd | apply ge | apply gf | apply gg | apply gh | apply gi | apply gj); conv => whnf) | (refine ⟨⟨rfl, rfl, nle rfl, nle rfl⟩, ?_⟩; conv => whnf) | fail)
        have e1 : Int.tdiv (u : Int) 10 = ((u / 10 : Nat) : Int) := by rw [Int.tdiv_eq_ediv_of_nonneg (by omega)]; omega
        have e2 : Int.tmod (u : Int) 10 = ((u % 10 : Nat) : Int) := by rw [Int.tmod_eq_emod_of_nonneg (by omega)]; omega
        refine ⟨⟨by decide, by unfold inI64; rw [e1]; omega⟩, ?_⟩
        conv => whnf
        repeat (first | ((with_reducible first | apply ga | apply gb | apply gc | apply gd | apply ge | apply gf | apply gg | apply gh | apply gi | apply gj); conv => whnf) | (refine ⟨⟨rfl, rfl, nle rfl, nle rfl⟩, ?_⟩; conv => whnf) | fail)
        rw [e1]
        refine CallK.flat [] (ih (u / 10) (by omega) (by omega)) ⟨.same, trivial⟩ rfl ?_
        conv => whnf
        repeat (first | ((with_reducible first | apply ga | apply gb | apply gc | apply gd | apply ge | apply gf | apply gg | apply gh | apply gi | apply gj); conv => whnf) | (refine ⟨⟨rfl, rfl, nle rfl, nle rfl⟩, ?_⟩; conv => whnf) | fail)
        refine ⟨⟨by decide⟩, ?_⟩
        conv => whnf
        repeat (first | ((with_reducible first | apply ga | apply gb | apply gc | apply gd | apply ge | apply gf | apply gg | apply gh | apply gi | apply gj); conv => whnf) | (refine ⟨⟨rfl, rfl, nle rfl, nle rfl⟩, ?_⟩; conv => whnf) | fail)
        rw [e2]
        refine CallK.flat [] (ih (u % 10) (by omega) (by omega)) ⟨.same, trivial⟩ rfl ?_
        conv => whnf
        repeat (first | ((with_reducible first | apply ga | apply gb | apply gc | apply gd | apply ge | apply gf | apply gg | apply gh | apply gi | apply gj); conv => whnf) | (refine ⟨⟨rfl, rfl, nle rfl, nle rfl⟩, ?_⟩; conv => whnf) | fail)
        refine ⟨⟨by have := hl (u / 10) (by omega); have := hl (u % 10) (by omega); omega⟩, ?_⟩
        conv => whnf
        repeat (first | ((with_reducible first | apply ga | apply gb | apply gc | apply gd | apply ge | apply gf | apply gg | apply gh | apply gi | apply gj); conv => whnf) | (refine ⟨⟨rfl, rfl, nle rfl, nle rfl⟩, ?_⟩; conv => whnf) | fail)
        have hE : Lib.itoa (u : Int) = Lib.itoa ((u / 10 : Nat) : Int) ++ Lib.itoa ((u % 10 : Nat) : Int) := by
          rw [Lib.itoa_nonneg, Lib.itoa_nonneg, Lib.itoa_nonneg]; exact dec_big (by omega)
        rw [hE]
        exact ⟨[], .same⟩
theorem f27 (n : Int) (h : within n = true) : PureCall Tryd.prog 27 [i64 n] (st (Lib.itoa n)) := by
  have hw : -65535 ≤ n ∧ n ≤ 65535 := by simpa [within] using h
  by_cases hn : n < 0
  · obtain ⟨u, rfl⟩ : ∃ u : Nat, n = -(u : Int) := ⟨n.natAbs, by omega⟩
    refine PureCall.run tab_ok mixed (by kernel_rfl) Tryd.func27 rfl rfl rfl ?_
    conv => whnf
    repeat (first | ((with_reducible first | apply ga | apply gb | apply gc | apply gd | apply ge | apply gf | apply gg | apply gh | apply gi | apply gj); conv => whnf) | (refine ⟨⟨rfl, rfl, nle rfl, nle rfl⟩, ?_⟩; conv => whnf) | fail)
    refine ⟨fun hn' => ?_, fun hn' => ?_⟩ <;> replace hn' := nm hn' <;> (try simp only [Int.toNat_zero] at hn') <;> (try simp only [Int.toNat_one] at hn')
    · conv => whnf
      repeat (first | ((with_reducible first | apply ga | apply gb | apply gc | apply gd | apply ge | apply gf | apply gg | apply gh | apply gi | apply gj); conv => whnf) | (refine ⟨⟨rfl, rfl, nle rfl, nle rfl⟩, ?_⟩; conv => whnf) | fail)
      refine ⟨⟨by unfold inI64; omega⟩, ?_⟩
      conv => whnf
      repeat (first | ((with_reducible first | apply ga | apply gb | apply gc | apply gd | apply ge | apply gf | apply gg | apply gh | apply gi | apply gj); conv => whnf) | (refine ⟨⟨rfl, rfl, nle rfl, nle rfl⟩, ?_⟩; conv => whnf) | fail)
      rw [show 0 - -(u : Int) = u by omega]
      refine CallK.flat [] (f27n u (by omega)) ⟨.same, trivial⟩ rfl ?_
      conv => whnf
      repeat (first | ((with_reducible first | apply ga | apply gb | apply gc | apply gd | apply ge | apply gf | apply gg | apply gh | apply gi | apply gj); conv => whnf) | (refine ⟨⟨rfl, rfl, nle rfl, nle rfl⟩, ?_⟩; conv => whnf) | fail)
      refine ⟨⟨by have := itoa_len (n := (u : Int)) (by unfold inI64; omega); simp only [List.length_cons, List.length_nil]; omega⟩, ?_⟩
      conv => whnf
      repeat (first | ((with_reducible first | apply ga | apply gb | apply gc | apply gd | apply ge | apply gf | apply gg | apply gh | apply gi | apply gj); conv => whnf) | (refine ⟨⟨rfl, rfl, nle rfl, nle rfl⟩, ?_⟩; conv => whnf) | fail)
      have hE : Lib.itoa (-(u : Int)) = [45] ++ Lib.itoa (u : Int) := by rw [Lib.itoa_neg u (by omega), Lib.itoa_nonneg]; rfl
      rw [hE]
      exact ⟨[], .same⟩
    · exfalso; omega
  · obtain ⟨u, rfl⟩ : ∃ u : Nat, n = u := ⟨n.toNat, by omega⟩
    exact f27n u (by omega)
/-- Can the line be scanned from a string? -/
def mayB (l : Line) : Bool :=
  !((!(l.lab == []) && !(isName l.lab)) || (!(l.op == []) && !(isName l.op)) || ((l.op == []) && !(l.arg.k == 0))) &&
    (if l.arg.k = 0 then l.arg.nm == [] && l.arg.v == 0 else if l.arg.k = 1 then l.arg.nm == [] && within l.arg.v else if l.arg.k = 2 then isName l.arg.nm && within l.arg.v else false)
theorem bad_may (l : Line) : bad l = !(mayB l) := by
  unfold bad mayB opStr
  by_cases h0 : l.arg.k = 0
  · simp only [h0, if_true]; cases l.lab == [] <;> cases isName l.lab <;> cases l.op == [] <;> cases isName l.op <;> cases (l.arg.nm == [] && l.arg.v == 0) <;> rfl
  · have e0 : (l.arg.k == 0) = false := by simpa using h0
    by_cases h1 : l.arg.k = 1
    · have ec : ((32 :: Lib.itoa l.arg.v : List UInt8) == []) = false := rfl
      simp only [if_neg h0, if_pos h1, e0, ec]; cases l.lab == [] <;> cases isName l.lab <;> cases l.op == [] <;> cases isName l.op <;> cases (l.arg.nm == [] && within l.arg.v) <;> rfl
    · by_cases h2 : l.arg.k = 2
      · have ec : ((32 :: l.arg.nm ++ (if 0 < l.arg.v then [43] else []) ++ (if l.arg.v = 0 then [] else Lib.itoa l.arg.v) : List UInt8) == []) = false := rfl
        simp only [if_neg h0, if_neg h1, if_pos h2, e0, ec]; cases l.lab == [] <;> cases isName l.lab <;> cases l.op == [] <;> cases isName l.op <;> cases (isName l.arg.nm && within l.arg.v) <;> rfl
      · simp only [if_neg h0, if_neg h1, if_neg h2, Bool.not_false, Bool.true_or, Bool.and_false]
def hd (l : Line) : List UInt8 := if l.op = [] then l.lab else l.lab ++ [32] ++ l.op
def tl (a : Arg) : List UInt8 :=
  if a.k = 0 then [] else if a.k = 1 then [32] ++ Lib.itoa a.v else if a.k = 2 then [32] ++ a.nm ++ (if 0 < a.v then [43] else []) ++ (if a.v = 0 then [] else Lib.itoa a.v) else []
theorem print_may (l : Line) : print l = if (!(mayB l)) = true then ([], 2) else (hd l ++ tl l.arg, 0) := by
  rw [print, bad_may]
  cases hm : mayB l with
  | false => rfl
  | true =>
    simp only [Bool.not_true, Bool.false_eq_true, if_false]
    by_cases hop : l.op = []
    · have hk : l.arg.k = 0 := by
        unfold mayB at hm
        simp only [Bool.and_eq_true, Bool.not_eq_true', Bool.or_eq_false_iff] at hm
        have := hm.1.2
        rw [hop] at this
        simpa using this
      simp [hop, hd, tl, hk]
    · have e : (l.op == []) = false := by simpa using hop
      have eo : (opStr l.arg).1 = tl l.arg := by
        unfold opStr tl
        split
        · rfl
        · split
          · rfl
          · split
            · rfl
            · rfl
      simp only [e, hd, if_neg hop, eo, Bool.false_eq_true, if_false]
theorem f48 (l : Line) (h : LineB l) : PureCall Tryd.prog 48 [l.av] (bb (mayB l)) := by
  obtain ⟨h1, h2, h3, h4⟩ := h
  have hlab : B62 l.lab := by unfold B62; omega
  have hop : B62 l.op := by unfold B62; omega
  have hnm : B62 l.arg.nm := by unfold B62; omega
  refine PureCall.run tab_ok mixed (by kernel_rfl) Tryd.func48 rfl rfl rfl ?_
  conv => whnf
  repeat (first | ((with_reducible first | apply ga | apply gb | apply gc | apply gd | apply ge | apply gf | apply gg | apply gh | apply gi | apply gj); conv => whnf) | (refine ⟨⟨rfl, rfl, nle rfl, nle rfl⟩, ?_⟩; conv => whnf) | fail)
  repeat' (first | ((with_reducible first | apply ga | apply gb | apply gc | apply gd | apply ge | apply gf | apply gg | apply gh | apply gi | apply gj); conv => whnf) | (refine ⟨⟨rfl, rfl, nle rfl, nle rfl⟩, ?_⟩; conv => whnf) | (refine CallK.flat [] (f17 l.lab hlab) ⟨.same, trivial⟩ rfl ?_; conv => whnf) | (refine CallK.flat [] (f17 l.op hop) ⟨.same, trivial⟩ rfl ?_; conv => whnf) | (refine CallK.flat [] (f17 l.arg.nm hnm) ⟨.same, trivial⟩ rfl ?_; conv => whnf) | (refine CallK.flat [] (f59 l.arg.v) ⟨.same, trivial⟩ rfl ?_; conv => whnf) | (refine ⟨fun hc => ?_, fun hc => ?_⟩ <;> (conv => whnf)) | fail)
  all_goals (refine done_bool _ _ rfl rfl ?_; simp_all [mayB])
set_option maxHeartbeats 2000000 in
theorem f24 (l : Line) (h : LineB l) : PureCall Tryd.prog 24 [l.av] (prT (print l)) := by
  have hB := h
  obtain ⟨h1, h2, h3, h4⟩ := h
  have hil := itoa_len h4
  refine PureCall.run tab_ok mixed (by kernel_rfl) Tryd.func24 rfl rfl rfl ?_
  conv => whnf
  repeat (first | ((with_reducible first | apply ga | apply gb | apply gc | apply gd | apply ge | apply gf | apply gg | apply gh | apply gi | apply gj); conv => whnf) | (refine ⟨⟨rfl, rfl, nle rfl, nle rfl⟩, ?_⟩; conv => whnf) | fail)
  refine CallK.flat [] (f48 l hB) ⟨agg5 .same .same .same .same .same, trivial⟩ rfl ?_
  conv => whnf
  repeat (first | ((with_reducible first | apply ga | apply gb | apply gc | apply gd | apply ge | apply gf | apply gg | apply gh | apply gi | apply gj); conv => whnf) | (refine ⟨⟨rfl, rfl, nle rfl, nle rfl⟩, ?_⟩; conv => whnf) | fail)
  refine ⟨fun hm => ?_, fun hm => ?_⟩ <;> replace hm := nm hm <;> (try simp only [Int.toNat_zero] at hm) <;> (try simp only [Int.toNat_one] at hm)
  · conv => whnf
    repeat (first | ((with_reducible first | apply ga | apply gb | apply gc | apply gd | apply ge | apply gf | apply gg | apply gh | apply gi | apply gj); conv => whnf) | (refine ⟨⟨rfl, rfl, nle rfl, nle rfl⟩, ?_⟩; conv => whnf) | fail)
    have hO : print l = ([], 2) := by rw [print_may, if_pos (by rw [hm]; decide)]
    rw [hO]
    exact done_tup [st [], i64 2] [] rfl ⟨.same, .same, trivial⟩
  · have hw1 : l.arg.k = 1 → within l.arg.v = true := fun hk => by
      unfold mayB at hm
      rw [hk, if_neg (by decide), if_pos rfl] at hm
      simp only [Bool.and_eq_true] at hm
      exact hm.2.2
    have hw2 : l.arg.k = 2 → within l.arg.v = true := fun hk => by
      unfold mayB at hm
      rw [hk, if_neg (by decide), if_neg (by decide), if_pos rfl] at hm
      simp only [Bool.and_eq_true] at hm
      exact hm.2.2
    conv => whnf
    repeat (first | ((with_reducible first | apply ga | apply gb | apply gc | apply gd | apply ge | apply gf | apply gg | apply gh | apply gi | apply gj); conv => whnf) | (refine ⟨⟨rfl, rfl, nle rfl, nle rfl⟩, ?_⟩; conv => whnf) | fail)
    refine ⟨fun hop => ?_, fun hop => ?_⟩ <;> replace hop := nm hop <;> (try simp only [Int.toNat_zero] at hop) <;> (try simp only [Int.toNat_one] at hop)
    · conv => whnf
      repeat (first | ((with_reducible first | apply ga | apply gb | apply gc | apply gd | apply ge | apply gf | apply gg | apply gh | apply gi | apply gj); conv => whnf) | (refine ⟨⟨rfl, rfl, nle rfl, nle rfl⟩, ?_⟩; conv => whnf) | fail)
      refine ⟨⟨by simp only [List.length_append, List.length_cons, List.length_nil]; omega⟩, ?_⟩
      conv => whnf
      repeat (first | ((with_reducible first | apply ga | apply gb | apply gc | apply gd | apply ge | apply gf | apply gg | apply gh | apply gi | apply gj); conv => whnf) | (refine ⟨⟨rfl, rfl, nle rfl, nle rfl⟩, ?_⟩; conv => whnf) | fail)
      refine ⟨⟨by simp only [List.length_append, List.length_cons, List.length_nil]; omega⟩, ?_⟩
      conv => whnf
      repeat (first | ((with_reducible first | apply ga | apply gb | apply gc | apply gd | apply ge | apply gf | apply gg | apply gh | apply gi | apply gj); conv => whnf) | (refine ⟨⟨rfl, rfl, nle rfl, nle rfl⟩, ?_⟩; conv => whnf) | fail)
      refine ⟨fun k1 => ?_, fun k1 => ?_⟩ <;> replace k1 := nm k1 <;> (try simp only [Int.toNat_zero] at k1) <;> (try simp only [Int.toNat_one] at k1)
      · conv => whnf
        repeat (first | ((with_reducible first | apply ga | apply gb | apply gc | apply gd | apply ge | apply gf | apply gg | apply gh | apply gi | apply gj); conv => whnf) | (refine ⟨⟨rfl, rfl, nle rfl, nle rfl⟩, ?_⟩; conv => whnf) | fail)
        refine ⟨⟨by simp only [List.length_append, List.length_cons, List.length_nil]; omega⟩, ?_⟩
        conv => whnf
        repeat (first | ((with_reducible first | apply ga | apply gb | apply gc | apply gd | apply ge | apply gf | apply gg | apply gh | apply gi | apply gj); conv => whnf) | (refine ⟨⟨rfl, rfl, nle rfl, nle rfl⟩, ?_⟩; conv => whnf) | fail)
        refine CallK.flat [] (f27 l.arg.v (hw1 k1)) ⟨.same, trivial⟩ rfl ?_
        conv => whnf
        repeat (first | ((with_reducible first | apply ga | apply gb | apply gc | apply gd | apply ge | apply gf | apply gg | apply gh | apply gi | apply gj); conv => whnf) | (refine ⟨⟨rfl, rfl, nle rfl, nle rfl⟩, ?_⟩; conv => whnf) | fail)
        refine ⟨⟨by simp only [List.length_append, List.length_cons, List.length_nil]; omega⟩, ?_⟩
        conv => whnf
        repeat (first | ((with_reducible first | apply ga | apply gb | apply gc | apply gd | apply ge | apply gf | apply gg | apply gh | apply gi | apply gj); conv => whnf) | (refine ⟨⟨rfl, rfl, nle rfl, nle rfl⟩, ?_⟩; conv => whnf) | fail)
        refine ⟨fun e => absurd (((beq_eq_false_iff_ne.mpr (by omega) : (l.arg.k == 2) = false)).symm.trans e) (by decide), fun _ => ?_⟩
        conv => whnf
        repeat (first | ((with_reducible first | apply ga | apply gb | apply gc | apply gd | apply ge | apply gf | apply gg | apply gh | apply gi | apply gj); conv => whnf) | (refine ⟨⟨rfl, rfl, nle rfl, nle rfl⟩, ?_⟩; conv => whnf) | fail)
        have hO : print l = (l.lab ++ [32] ++ l.op ++ [32] ++ Lib.itoa l.arg.v, 0) := by
          rw [print_may, if_neg (by rw [hm]; decide)]
          simp only [hd, if_neg hop, tl, if_neg (show ¬ l.arg.k = 0 by omega), if_pos k1, List.append_nil, List.append_assoc]
        rw [hO]
        exact done_tup [st (l.lab ++ [32] ++ l.op ++ [32] ++ Lib.itoa l.arg.v), i64 0] [] rfl ⟨.same, .same, trivial⟩
      · conv => whnf
        repeat (first | ((with_reducible first | apply ga | apply gb | apply gc | apply gd | apply ge | apply gf | apply gg | apply gh | apply gi | apply gj); conv => whnf) | (refine ⟨⟨rfl, rfl, nle rfl, nle rfl⟩, ?_⟩; conv => whnf) | fail)
        refine ⟨fun k2 => ?_, fun k2 => ?_⟩ <;> replace k2 := nm k2 <;> (try simp only [Int.toNat_zero] at k2) <;> (try simp only [Int.toNat_one] at k2)
        · conv => whnf
          repeat (first | ((with_reducible first | apply ga | apply gb | apply gc | apply gd | apply ge | apply gf | apply gg | apply gh | apply gi | apply gj); conv => whnf) | (refine ⟨⟨rfl, rfl, nle rfl, nle rfl⟩, ?_⟩; conv => whnf) | fail)
          refine ⟨⟨by simp only [List.length_append, List.length_cons, List.length_nil]; omega⟩, ?_⟩
          conv => whnf
          repeat (first | ((with_reducible first | apply ga | apply gb | apply gc | apply gd | apply ge | apply gf | apply gg | apply gh | apply gi | apply gj); conv => whnf) | (refine ⟨⟨rfl, rfl, nle rfl, nle rfl⟩, ?_⟩; conv => whnf) | fail)
          refine ⟨⟨by simp only [List.length_append, List.length_cons, List.length_nil]; omega⟩, ?_⟩
          conv => whnf
          repeat (first | ((with_reducible first | apply ga | apply gb | apply gc | apply gd | apply ge | apply gf | apply gg | apply gh | apply gi | apply gj); conv => whnf) | (refine ⟨⟨rfl, rfl, nle rfl, nle rfl⟩, ?_⟩; conv => whnf) | fail)
          refine ⟨fun hp => ?_, fun hp => ?_⟩ <;> replace hp := nm hp <;> (try simp only [Int.toNat_zero] at hp) <;> (try simp only [Int.toNat_one] at hp)
          · conv => whnf
            repeat (first | ((with_reducible first | apply ga | apply gb | apply gc | apply gd | apply ge | apply gf | apply gg | apply gh | apply gi | apply gj); conv => whnf) | (refine ⟨⟨rfl, rfl, nle rfl, nle rfl⟩, ?_⟩; conv => whnf) | fail)
            refine ⟨⟨by simp only [List.length_append, List.length_cons, List.length_nil]; omega⟩, ?_⟩
            conv => whnf
            repeat (first | ((with_reducible first | apply ga | apply gb | apply gc | apply gd | apply ge | apply gf | apply gg | apply gh | apply gi | apply gj); conv => whnf) | (refine ⟨⟨rfl, rfl, nle rfl, nle rfl⟩, ?_⟩; conv => whnf) | fail)
            refine ⟨fun hz => ?_, fun hz => ?_⟩ <;> replace hz := nm hz <;> (try simp only [Int.toNat_zero] at hz) <;> (try simp only [Int.toNat_one] at hz)
            · conv => whnf
              repeat (first | ((with_reducible first | apply ga | apply gb | apply gc | apply gd | apply ge | apply gf | apply gg | apply gh | apply gi | apply gj); conv => whnf) | (refine ⟨⟨rfl, rfl, nle rfl, nle rfl⟩, ?_⟩; conv => whnf) | fail)
              refine CallK.flat [] (f27 l.arg.v (hw2 k2)) ⟨.same, trivial⟩ rfl ?_
              conv => whnf
              repeat (first | ((with_reducible first | apply ga | apply gb | apply gc | apply gd | apply ge | apply gf | apply gg | apply gh | apply gi | apply gj); conv => whnf) | (refine ⟨⟨rfl, rfl, nle rfl, nle rfl⟩, ?_⟩; conv => whnf) | fail)
              refine ⟨⟨by simp only [List.length_append, List.length_cons, List.length_nil]; omega⟩, ?_⟩
              conv => whnf
              repeat (first | ((with_reducible first | apply ga | apply gb | apply gc | apply gd | apply ge | apply gf | apply gg | apply gh | apply gi | apply gj); conv => whnf) | (refine ⟨⟨rfl, rfl, nle rfl, nle rfl⟩, ?_⟩; conv => whnf) | fail)
              have hO : print l = (l.lab ++ [32] ++ l.op ++ [32] ++ l.arg.nm ++ [43] ++ Lib.itoa l.arg.v, 0) := by
                rw [print_may, if_neg (by rw [hm]; decide)]
                simp only [hd, if_neg hop, tl, if_neg (show ¬ l.arg.k = 0 by omega), if_neg k1, if_pos k2, if_pos hp, if_neg hz, List.append_nil, List.append_assoc]
              rw [hO]
              exact done_tup [st (l.lab ++ [32] ++ l.op ++ [32] ++ l.arg.nm ++ [43] ++ Lib.itoa l.arg.v), i64 0] [] rfl ⟨.same, .same, trivial⟩
            · exfalso; omega
          · conv => whnf
            repeat (first | ((with_reducible first | apply ga | apply gb | apply gc | apply gd | apply ge | apply gf | apply gg | apply gh | apply gi | apply gj); conv => whnf) | (refine ⟨⟨rfl, rfl, nle rfl, nle rfl⟩, ?_⟩; conv => whnf) | fail)
            refine ⟨fun hz => ?_, fun hz => ?_⟩ <;> replace hz := nm hz <;> (try simp only [Int.toNat_zero] at hz) <;> (try simp only [Int.toNat_one] at hz)
            · conv => whnf
              repeat (first | ((with_reducible first | apply ga | apply gb | apply gc | apply gd | apply ge | apply gf | apply gg | apply gh | apply gi | apply gj); conv => whnf) | (refine ⟨⟨rfl, rfl, nle rfl, nle rfl⟩, ?_⟩; conv => whnf) | fail)
              refine CallK.flat [] (f27 l.arg.v (hw2 k2)) ⟨.same, trivial⟩ rfl ?_
              conv => whnf
              repeat (first | ((with_reducible first | apply ga | apply gb | apply gc | apply gd | apply ge | apply gf | apply gg | apply gh | apply gi | apply gj); conv => whnf) | (refine ⟨⟨rfl, rfl, nle rfl, nle rfl⟩, ?_⟩; conv => whnf) | fail)
              refine ⟨⟨by simp only [List.length_append, List.length_cons, List.length_nil]; omega⟩, ?_⟩
              conv => whnf
              repeat (first | ((with_reducible first | apply ga | apply gb | apply gc | apply gd | apply ge | apply gf | apply gg | apply gh | apply gi | apply gj); conv => whnf) | (refine ⟨⟨rfl, rfl, nle rfl, nle rfl⟩, ?_⟩; conv => whnf) | fail)
              have hO : print l = (l.lab ++ [32] ++ l.op ++ [32] ++ l.arg.nm ++ Lib.itoa l.arg.v, 0) := by
                rw [print_may, if_neg (by rw [hm]; decide)]
                simp only [hd, if_neg hop, tl, if_neg (show ¬ l.arg.k = 0 by omega), if_neg k1, if_pos k2, if_neg (Int.not_lt.mpr hp), if_neg hz, List.append_nil, List.append_assoc]
              rw [hO]
              exact done_tup [st (l.lab ++ [32] ++ l.op ++ [32] ++ l.arg.nm ++ Lib.itoa l.arg.v), i64 0] [] rfl ⟨.same, .same, trivial⟩
            · conv => whnf
              repeat (first | ((with_reducible first | apply ga | apply gb | apply gc | apply gd | apply ge | apply gf | apply gg | apply gh | apply gi | apply gj); conv => whnf) | (refine ⟨⟨rfl, rfl, nle rfl, nle rfl⟩, ?_⟩; conv => whnf) | fail)
              have hO : print l = (l.lab ++ [32] ++ l.op ++ [32] ++ l.arg.nm, 0) := by
                rw [print_may, if_neg (by rw [hm]; decide)]
                simp only [hd, if_neg hop, tl, if_neg (show ¬ l.arg.k = 0 by omega), if_neg k1, if_pos k2, if_neg (Int.not_lt.mpr hp), if_pos hz, List.append_nil, List.append_assoc]
              rw [hO]
              exact done_tup [st (l.lab ++ [32] ++ l.op ++ [32] ++ l.arg.nm), i64 0] [] rfl ⟨.same, .same, trivial⟩
        · conv => whnf
          repeat (first | ((with_reducible first | apply ga | apply gb | apply gc | apply gd | apply ge | apply gf | apply gg | apply gh | apply gi | apply gj); conv => whnf) | (refine ⟨⟨rfl, rfl, nle rfl, nle rfl⟩, ?_⟩; conv => whnf) | fail)
          have hO : print l = (l.lab ++ [32] ++ l.op, 0) := by
            rw [print_may, if_neg (by rw [hm]; decide)]
            simp only [hd, if_neg hop, tl, if_neg k1, if_neg k2, ite_self, List.append_nil, List.append_assoc]
          rw [hO]
          exact done_tup [st (l.lab ++ [32] ++ l.op), i64 0] [] rfl ⟨.same, .same, trivial⟩
    · conv => whnf
      repeat (first | ((with_reducible first | apply ga | apply gb | apply gc | apply gd | apply ge | apply gf | apply gg | apply gh | apply gi | apply gj); conv => whnf) | (refine ⟨⟨rfl, rfl, nle rfl, nle rfl⟩, ?_⟩; conv => whnf) | fail)
      refine ⟨fun k1 => ?_, fun k1 => ?_⟩ <;> replace k1 := nm k1 <;> (try simp only [Int.toNat_zero] at k1) <;> (try simp only [Int.toNat_one] at k1)
      · conv => whnf
        repeat (first | ((with_reducible first | apply ga | apply gb | apply gc | apply gd | apply ge | apply gf | apply gg | apply gh | apply gi | apply gj); conv => whnf) | (refine ⟨⟨rfl, rfl, nle rfl, nle rfl⟩, ?_⟩; conv => whnf) | fail)
        refine ⟨⟨by simp only [List.length_append, List.length_cons, List.length_nil]; omega⟩, ?_⟩
        conv => whnf
        repeat (first | ((with_reducible first | apply ga | apply gb | apply gc | apply gd | apply ge | apply gf | apply gg | apply gh | apply gi | apply gj); conv => whnf) | (refine ⟨⟨rfl, rfl, nle rfl, nle rfl⟩, ?_⟩; conv => whnf) | fail)
        refine CallK.flat [] (f27 l.arg.v (hw1 k1)) ⟨.same, trivial⟩ rfl ?_
        conv => whnf
        repeat (first | ((with_reducible first | apply ga | apply gb | apply gc | apply gd | apply ge | apply gf | apply gg | apply gh | apply gi | apply gj); conv => whnf) | (refine ⟨⟨rfl, rfl, nle rfl, nle rfl⟩, ?_⟩; conv => whnf) | fail)
        refine ⟨⟨by simp only [List.length_append, List.length_cons, List.length_nil]; omega⟩, ?_⟩
        conv => whnf
        repeat (first | ((with_reducible first | apply ga | apply gb | apply gc | apply gd | apply ge | apply gf | apply gg | apply gh | apply gi | apply gj); conv => whnf) | (refine ⟨⟨rfl, rfl, nle rfl, nle rfl⟩, ?_⟩; conv => whnf) | fail)
        refine ⟨fun e => absurd (((beq_eq_false_iff_ne.mpr (by omega) : (l.arg.k == 2) = false)).symm.trans e) (by decide), fun _ => ?_⟩
        conv => whnf
        repeat (first | ((with_reducible first | apply ga | apply gb | apply gc | apply gd | apply ge | apply gf | apply gg | apply gh | apply gi | apply gj); conv => whnf) | (refine ⟨⟨rfl, rfl, nle rfl, nle rfl⟩, ?_⟩; conv => whnf) | fail)
        have hO : print l = (l.lab ++ [32] ++ Lib.itoa l.arg.v, 0) := by
          rw [print_may, if_neg (by rw [hm]; decide)]
          simp only [hd, if_pos hop, tl, if_neg (show ¬ l.arg.k = 0 by omega), if_pos k1, List.append_nil, List.append_assoc]
        rw [hO]
        exact done_tup [st (l.lab ++ [32] ++ Lib.itoa l.arg.v), i64 0] [] rfl ⟨.same, .same, trivial⟩
      · conv => whnf
        repeat (first | ((with_reducible first | apply ga | apply gb | apply gc | apply gd | apply ge | apply gf | apply gg | apply gh | apply gi | apply gj); conv => whnf) | (refine ⟨⟨rfl, rfl, nle rfl, nle rfl⟩, ?_⟩; conv => whnf) | fail)
        refine ⟨fun k2 => ?_, fun k2 => ?_⟩ <;> replace k2 := nm k2 <;> (try simp only [Int.toNat_zero] at k2) <;> (try simp only [Int.toNat_one] at k2)
        · conv => whnf
          repeat (first | ((with_reducible first | apply ga | apply gb | apply gc | apply gd | apply ge | apply gf | apply gg | apply gh | apply gi | apply gj); conv => whnf) | (refine ⟨⟨rfl, rfl, nle rfl, nle rfl⟩, ?_⟩; conv => whnf) | fail)
          refine ⟨⟨by simp only [List.length_append, List.length_cons, List.length_nil]; omega⟩, ?_⟩
          conv => whnf
          repeat (first | ((with_reducible first | apply ga | apply gb | apply gc | apply gd | apply ge | apply gf | apply gg | apply gh | apply gi | apply gj); conv => whnf) | (refine ⟨⟨rfl, rfl, nle rfl, nle rfl⟩, ?_⟩; conv => whnf) | fail)
          refine ⟨⟨by simp only [List.length_append, List.length_cons, List.length_nil]; omega⟩, ?_⟩
          conv => whnf
          repeat (first | ((with_reducible first | apply ga | apply gb | apply gc | apply gd | apply ge | apply gf | apply gg | apply gh | apply gi | apply gj); conv => whnf) | (refine ⟨⟨rfl, rfl, nle rfl, nle rfl⟩, ?_⟩; conv => whnf) | fail)
          refine ⟨fun hp => ?_, fun hp => ?_⟩ <;> replace hp := nm hp <;> (try simp only [Int.toNat_zero] at hp) <;> (try simp only [Int.toNat_one] at hp)
          · conv => whnf
            repeat (first | ((with_reducible first | apply ga | apply gb | apply gc | apply gd | apply ge | apply gf | apply gg | apply gh | apply gi | apply gj); conv => whnf) | (refine ⟨⟨rfl, rfl, nle rfl, nle rfl⟩, ?_⟩; conv => whnf) | fail)
            refine ⟨⟨by simp only [List.length_append, List.length_cons, List.length_nil]; omega⟩, ?_⟩
            conv => whnf
            repeat (first | ((with_reducible first | apply ga | apply gb | apply gc | apply gd | apply ge | apply gf | apply gg | apply gh | apply gi | apply gj); conv => whnf) | (refine ⟨⟨rfl, rfl, nle rfl, nle rfl⟩, ?_⟩; conv => whnf) | fail)
            refine ⟨fun hz => ?_, fun hz => ?_⟩ <;> replace hz := nm hz <;> (try simp only [Int.toNat_zero] at hz) <;> (try simp only [Int.toNat_one] at hz)
            · conv => whnf
              repeat (first | ((with_reducible first | apply ga | apply gb | apply gc | apply gd | apply ge | apply gf | apply gg | apply gh | apply gi | apply gj); conv => whnf) | (refine ⟨⟨rfl, rfl, nle rfl, nle rfl⟩, ?_⟩; conv => whnf) | fail)
              refine CallK.flat [] (f27 l.arg.v (hw2 k2)) ⟨.same, trivial⟩ rfl ?_
              conv => whnf
              repeat (first | ((with_reducible first | apply ga | apply gb | apply gc | apply gd | apply ge | apply gf | apply gg | apply gh | apply gi | apply gj); conv => whnf) | (refine ⟨⟨rfl, rfl, nle rfl, nle rfl⟩, ?_⟩; conv => whnf) | fail)
              refine ⟨⟨by simp only [List.length_append, List.length_cons, List.length_nil]; omega⟩, ?_⟩
              conv => whnf
              repeat (first | ((with_reducible first | apply ga | apply gb | apply gc | apply gd | apply ge | apply gf | apply gg | apply gh | apply gi | apply gj); conv => whnf) | (refine ⟨⟨rfl, rfl, nle rfl, nle rfl⟩, ?_⟩; conv => whnf) | fail)
              have hO : print l = (l.lab ++ [32] ++ l.arg.nm ++ [43] ++ Lib.itoa l.arg.v, 0) := by
                rw [print_may, if_neg (by rw [hm]; decide)]
                simp only [hd, if_pos hop, tl, if_neg (show ¬ l.arg.k = 0 by omega), if_neg k1, if_pos k2, if_pos hp, if_neg hz, List.append_nil, List.append_assoc]
              rw [hO]
              exact done_tup [st (l.lab ++ [32] ++ l.arg.nm ++ [43] ++ Lib.itoa l.arg.v), i64 0] [] rfl ⟨.same, .same, trivial⟩
            · exfalso; omega
          · conv => whnf
            repeat (first | ((with_reducible first | apply ga | apply gb | apply gc | apply gd | apply ge | apply gf | apply gg | apply gh | apply gi | apply gj); conv => whnf) | (refine ⟨⟨rfl, rfl, nle rfl, nle rfl⟩, ?_⟩; conv => whnf) | fail)
            refine ⟨fun hz => ?_, fun hz => ?_⟩ <;> replace hz := nm hz <;> (try simp only [Int.toNat_zero] at hz) <;> (try simp only [Int.toNat_one] at hz)
            · conv => whnf
              repeat (first | ((with_reducible first | apply ga | apply gb | apply gc | apply gd | apply ge | apply gf | apply gg | apply gh | apply gi | apply gj); conv => whnf) | (refine ⟨⟨rfl, rfl, nle rfl, nle rfl⟩, ?_⟩; conv => whnf) | fail)
              refine CallK.flat [] (f27 l.arg.v (hw2 k2)) ⟨.same, trivial⟩ rfl ?_
              conv => whnf
              repeat (first | ((with_reducible first | apply ga | apply gb | apply gc | apply gd | apply ge | apply gf | apply gg | apply gh | apply gi | apply gj); conv => whnf) | (refine ⟨⟨rfl, rfl, nle rfl, nle rfl⟩, ?_⟩; conv => whnf) | fail)
              refine ⟨⟨by simp only [List.length_append, List.length_cons, List.length_nil]; omega⟩, ?_⟩
              conv => whnf
              repeat (first | ((with_reducible first | apply ga | apply gb | apply gc | apply gd | apply ge | apply gf | apply gg | apply gh | apply gi | apply gj); conv => whnf) | (refine ⟨⟨rfl, rfl, nle rfl, nle rfl⟩, ?_⟩; conv => whnf) | fail)
              have hO : print l = (l.lab ++ [32] ++ l.arg.nm ++ Lib.itoa l.arg.v, 0) := by
                rw [print_may, if_neg (by rw [hm]; decide)]
                simp only [hd, if_pos hop, tl, if_neg (show ¬ l.arg.k = 0 by omega), if_neg k1, if_pos k2, if_neg (Int.not_lt.mpr hp), if_neg hz, List.append_nil, List.append_assoc]
              rw [hO]
              exact done_tup [st (l.lab ++ [32] ++ l.arg.nm ++ Lib.itoa l.arg.v), i64 0] [] rfl ⟨.same, .same, trivial⟩
            · conv => whnf
              repeat (first | ((with_reducible first | apply ga | apply gb | apply gc | apply gd | apply ge | apply gf | apply gg | apply gh | apply gi | apply gj); conv => whnf) | (refine ⟨⟨rfl, rfl, nle rfl, nle rfl⟩, ?_⟩; conv => whnf) | fail)
              have hO : print l = (l.lab ++ [32] ++ l.arg.nm, 0) := by
                rw [print_may, if_neg (by rw [hm]; decide)]
                simp only [hd, if_pos hop, tl, if_neg (show ¬ l.arg.k = 0 by omega), if_neg k1, if_pos k2, if_neg (Int.not_lt.mpr hp), if_pos hz, List.append_nil, List.append_assoc]
              rw [hO]
              exact done_tup [st (l.lab ++ [32] ++ l.arg.nm), i64 0] [] rfl ⟨.same, .same, trivial⟩
        · conv => whnf
          repeat (first | ((with_reducible first | apply ga | apply gb | apply gc | apply gd | apply ge | apply gf | apply gg | apply gh | apply gi | apply gj); conv => whnf) | (refine ⟨⟨rfl, rfl, nle rfl, nle rfl⟩, ?_⟩; conv => whnf) | fail)
          have hO : print l = (l.lab, 0) := by
            rw [print_may, if_neg (by rw [hm]; decide)]
            simp only [hd, if_pos hop, tl, if_neg k1, if_neg k2, ite_self, List.append_nil, List.append_assoc]
          rw [hO]
          exact done_tup [st (l.lab), i64 0] [] rfl ⟨.same, .same, trivial⟩
theorem f6 (l : Line) (h : LineB l) : PureCall Tryd.prog 6 [l.av] (bb true) := by
  refine PureCall.run tab_ok mixed (by kernel_rfl) Tryd.func6 rfl rfl rfl ?_
  conv => whnf
  repeat (first | ((with_reducible first | apply ga | apply gb | apply gc | apply gd | apply ge | apply gf | apply gg | apply gh | apply gi | apply gj); conv => whnf) | (refine ⟨⟨rfl, rfl, nle rfl, nle rfl⟩, ?_⟩; conv => whnf) | fail)
  refine CallK.flat [] (f23 l h) ⟨agg5 .same .same .same .same .same, trivial⟩ rfl ?_
  conv => whnf
  repeat (first | ((with_reducible first | apply ga | apply gb | apply gc | apply gd | apply ge | apply gf | apply gg | apply gh | apply gi | apply gj); conv => whnf) | (refine ⟨⟨rfl, rfl, nle rfl, nle rfl⟩, ?_⟩; conv => whnf) | fail)
  refine CallK.flat [] (f24 l h) ⟨agg5 .same .same .same .same .same, trivial⟩ rfl ?_
  conv => whnf
  repeat (first | ((with_reducible first | apply ga | apply gb | apply gc | apply gd | apply ge | apply gf | apply gg | apply gh | apply gi | apply gj); conv => whnf) | (refine ⟨⟨rfl, rfl, nle rfl, nle rfl⟩, ?_⟩; conv => whnf) | fail)
  repeat (first | ((with_reducible first | apply ga | apply gb | apply gc | apply gd | apply ge | apply gf | apply gg | apply gh | apply gi | apply gj); conv => whnf) | (refine ⟨⟨rfl, rfl, nle rfl, nle rfl⟩, ?_⟩; conv => whnf) | (refine CallK.flat [] f18 trivial rfl ?_; conv => whnf) | (refine ⟨fun _ => ?_, fun h => absurd h (by simp)⟩; conv => whnf) | fail)
  exact done_bool _ _ rfl rfl rfl
end Go.Proofs.YtdoeiccibhabcaaDoor

namespace Go.Proofs.YtdoeiccibhabcaaDoor
open Go Go.AM
attribute [local irreducible] AWP CallK PureCall SubS HeapCall
theorem f46 (s : List UInt8) (hs : B62 s) : PureCall Tryd.prog 46 [st s] (st (bef 35 s)) := by
  unfold B62 at hs
  have e35 : ∀ c : UInt8, ((c.toNat : Int) = 35) ↔ (c != 35) = false := fun c => by
    rw [bne_eq_false_iff_eq]
    constructor
    · intro h; exact UInt8.toNat_inj.mp (by simpa using (show c.toNat = 35 by omega))
    · rintro rfl; rfl
  refine PureCall.run tab_ok mixed (by kernel_rfl) Tryd.func46 rfl rfl rfl ?_
  conv => whnf
  repeat (first | ((with_reducible first | apply ga | apply gb | apply gc | apply gd | apply ge | apply gf | apply gg | apply gh | apply gi | apply gj); conv => whnf) | (refine ⟨⟨rfl, rfl, nle rfl, nle rfl⟩, ?_⟩; conv => whnf) | fail)
  refine ex_loop tab_ok mixed (fun i => i ≤ (bef 35 s).length) (fun i : Nat => mkSt 18 [(0, st s), (3, i64 i)] []) (fun i => s.length - i) 0 (Nat.zero_le _) (SubS.mk [] rfl ⟨⟨_, rfl, .same⟩, ⟨_, rfl, .same⟩, trivial⟩ trivial) fun i hi => ?_
  have hm := bef_le 35 s
  have hpre : s.take (bef 35 s).length = bef 35 s := (List.prefix_iff_eq_take.mp (List.takeWhile_prefix _)).symm
  conv => whnf
  repeat (first | ((with_reducible first | apply ga | apply gb | apply gc | apply gd | apply ge | apply gf | apply gg | apply gh | apply gi | apply gj); conv => whnf) | (refine ⟨⟨rfl, rfl, nle rfl, nle rfl⟩, ?_⟩; conv => whnf) | fail)
  refine ⟨fun hc => ?_, fun hc => ?_⟩ <;> replace hc := nm hc <;> (try simp only [Int.toNat_zero] at hc) <;> (try simp only [Int.toNat_one] at hc)
  · conv => whnf
    repeat (first | ((with_reducible first | apply ga | apply gb | apply gc | apply gd | apply ge | apply gf | apply gg | apply gh | apply gi | apply gj); conv => whnf) | (refine ⟨⟨rfl, rfl, nle rfl, nle rfl⟩, ?_⟩; conv => whnf) | fail)
    refine ⟨⟨by omega, by omega⟩, ?_⟩
    conv => whnf
    repeat (first | ((with_reducible first | apply ga | apply gb | apply gc | apply gd | apply ge | apply gf | apply gg | apply gh | apply gi | apply gj); conv => whnf) | (refine ⟨⟨rfl, rfl, nle rfl, nle rfl⟩, ?_⟩; conv => whnf) | fail)
    rw [show ((i : Int)).toNat = i from Int.toNat_natCast _]
    refine ⟨fun hb => ?_, fun hb => ?_⟩ <;> replace hb := nm hb <;> (try simp only [Int.toNat_zero] at hb) <;> (try simp only [Int.toNat_one] at hb)
    · have he : i = (bef 35 s).length := by
        rcases Nat.lt_or_ge i (bef 35 s).length with h | h
        · have := (tw_lt h).2
          rw [(e35 _).mp hb] at this; cases this
        · omega
      conv => whnf
      repeat (first | ((with_reducible first | apply ga | apply gb | apply gc | apply gd | apply ge | apply gf | apply gg | apply gh | apply gi | apply gj); conv => whnf) | (refine ⟨⟨rfl, rfl, nle rfl, nle rfl⟩, ?_⟩; conv => whnf) | fail)
      refine ⟨⟨by omega, by omega⟩, ?_⟩
      conv => whnf
      repeat (first | ((with_reducible first | apply ga | apply gb | apply gc | apply gd | apply ge | apply gf | apply gg | apply gh | apply gi | apply gj); conv => whnf) | (refine ⟨⟨rfl, rfl, nle rfl, nle rfl⟩, ?_⟩; conv => whnf) | fail)
      rw [show ((i : Int)).toNat = i from Int.toNat_natCast _, he, hpre]
      exact ⟨[], .same⟩
    · have hlt : i < (bef 35 s).length := by
        rcases Nat.lt_or_ge i (bef 35 s).length with h | h
        · exact h
        · have he : i = (bef 35 s).length := by omega
          have := tw_end (p := fun c => c != 35) (s := s) (by show (bef 35 s).length < _; omega)
          exact absurd ((e35 _).mpr (by rw [he]; exact this)) hb
      conv => whnf
      repeat (first | ((with_reducible first | apply ga | apply gb | apply gc | apply gd | apply ge | apply gf | apply gg | apply gh | apply gi | apply gj); conv => whnf) | (refine ⟨⟨rfl, rfl, nle rfl, nle rfl⟩, ?_⟩; conv => whnf) | fail)
      refine ⟨⟨by unfold inI64; omega⟩, ?_⟩
      conv => whnf
      repeat (first | ((with_reducible first | apply ga | apply gb | apply gc | apply gd | apply ge | apply gf | apply gg | apply gh | apply gi | apply gj); conv => whnf) | (refine ⟨⟨rfl, rfl, nle rfl, nle rfl⟩, ?_⟩; conv => whnf) | fail)
      exact ⟨i + 1, hlt, SubS.mk [] rfl ⟨⟨_, rfl, .same⟩, ⟨_, rfl, .same⟩, trivial⟩ trivial, by omega⟩
  · conv => whnf
    repeat (first | ((with_reducible first | apply ga | apply gb | apply gc | apply gd | apply ge | apply gf | apply gg | apply gh | apply gi | apply gj); conv => whnf) | (refine ⟨⟨rfl, rfl, nle rfl, nle rfl⟩, ?_⟩; conv => whnf) | fail)
    have he : bef 35 s = s := by rw [← hpre, List.take_of_length_le (by omega)]
    rw [he]
    exact ⟨[], .same⟩
def fcell (p : Nat × List UInt8) (j : Nat) : PV := bif Nat.beq j 0 then .int .i64 p.1 else .str p.2
def fldP (L : List (Nat × List UInt8)) : PV := .seq 65 2 L.length fun i j => fcell (L.getD i (0, [])) j
def fldO (g : Nat) (L : List (Nat × List UInt8)) : AO := ⟨65, g, 2, L.length, fun i j => .pv (fcell (L.getD i (0, [])) j)⟩
theorem _root_.Go.AM.VLe.snoc {H : Heap} {B : List Nat} {U : List (Nat × Nat)} {f g : Nat → Nat → AV} {n i j : Nat} {v : AV} (hi : i < n + 1) (h1 : i < n → VLe H B U (f i j) v) (h2 : i = n → VLe H B U (g 0 j) v) : VLe H B U (catF f g n i j) v := by
  unfold catF
  by_cases h : i < n
  · rw [Nat.ble_eq_true_of_le h]; exact h1 h
  · have hb : Nat.ble (i + 1) n = false := by rw [← Bool.not_eq_true, Nat.ble_eq]; exact h
    have : i = n := by omega
    rw [hb, show i - n = 0 by omega]; exact h2 this
theorem fl_skip {s : List UInt8} {k : Nat} (h : blank (s.getD k 0) = true ∨ s.length ≤ k) : fl s k = fl s (k + 1) := by
  rcases Nat.lt_or_ge k s.length with hk | hk
  · have hb : blank (s.getD k 0) = true := h.elim id (fun h => by omega)
    unfold fl
    rw [getD_drop hk]
    simp only [flds, hb, if_true]
    rfl
  · rw [fl_end hk, fl_end (by omega)]
set_option maxHeartbeats 1000000 in
theorem f45 (s : List UInt8) (hs : s.length < 2 ^ 40) : PureCall Tryd.prog 45 [st s] (.pv (fldP (fl s 0))) := by
  refine PureCall.run tab_ok mixed (by kernel_rfl) Tryd.func45 rfl rfl rfl ?_
  conv => whnf
  repeat (first | ((with_reducible first | apply ga | apply gb | apply gc | apply gd | apply ge | apply gf | apply gg | apply gh | apply gi | apply gj); conv => whnf) | (refine ⟨⟨rfl, rfl, nle rfl, nle rfl⟩, ?_⟩; conv => whnf) | fail)
  refine ex_loop tab_ok mixed (fun x : Nat × List (Nat × List UInt8) × Nat => x.1 ≤ s.length ∧ x.2.1.length ≤ x.1 ∧ x.2.1 ++ fl s x.1 = fl s 0) (fun x => mkSt 41 [(0, st s), (3, .row 1003 x.2.2 2 0 x.2.1.length), (4, i64 x.1)] [(1003, fldO x.2.2 x.2.1)]) (fun x => s.length - x.1) (0, [], 0) ⟨Nat.zero_le _, Nat.zero_le _, rfl⟩ (SubS.mkN [] [] rfl rfl rfl ⟨⟨_, rfl, .same⟩, ⟨_, rfl, .void _ _ _⟩, ⟨_, rfl, .same⟩, trivial⟩ ⟨.inr ⟨rfl, rfl⟩, trivial⟩) ?_
  rintro ⟨i, L, g⟩ ⟨hi, hLi, hL⟩
  dsimp only at hi hLi hL ⊢
  conv => whnf
  repeat (first | ((with_reducible first | apply ga | apply gb | apply gc | apply gd | apply ge | apply gf | apply gg | apply gh | apply gi | apply gj); conv => whnf) | (refine ⟨⟨rfl, rfl, nle rfl, nle rfl⟩, ?_⟩; conv => whnf) | fail)
  refine ⟨fun hc => ?_, fun hc => ?_⟩ <;> replace hc := nm hc <;> (try simp only [Int.toNat_zero] at hc) <;> (try simp only [Int.toNat_one] at hc)
  · have hlt : i < s.length := by omega
    conv => whnf
    repeat (first | ((with_reducible first | apply ga | apply gb | apply gc | apply gd | apply ge | apply gf | apply gg | apply gh | apply gi | apply gj); conv => whnf) | (refine ⟨⟨rfl, rfl, nle rfl, nle rfl⟩, ?_⟩; conv => whnf) | fail)
    refine ⟨⟨by omega, by omega⟩, ?_⟩
    conv => whnf
    repeat (first | ((with_reducible first | apply ga | apply gb | apply gc | apply gd | apply ge | apply gf | apply gg | apply gh | apply gi | apply gj); conv => whnf) | (refine ⟨⟨rfl, rfl, nle rfl, nle rfl⟩, ?_⟩; conv => whnf) | fail)
    rw [show ((i : Int)).toNat = i from Int.toNat_natCast _]
    refine CallK.flat [] (f56 (s.getD i 0)) ⟨.same, trivial⟩ rfl ?_
    conv => whnf
    repeat (first | ((with_reducible first | apply ga | apply gb | apply gc | apply gd | apply ge | apply gf | apply gg | apply gh | apply gi | apply gj); conv => whnf) | (refine ⟨⟨rfl, rfl, nle rfl, nle rfl⟩, ?_⟩; conv => whnf) | fail)
    refine ⟨fun hb => ?_, fun hb => ?_⟩ <;> replace hb := nm hb <;> (try simp only [Int.toNat_zero] at hb) <;> (try simp only [Int.toNat_one] at hb)
    · conv => whnf
      repeat (first | ((with_reducible first | apply ga | apply gb | apply gc | apply gd | apply ge | apply gf | apply gg | apply gh | apply gi | apply gj); conv => whnf) | (refine ⟨⟨rfl, rfl, nle rfl, nle rfl⟩, ?_⟩; conv => whnf) | fail)
      refine ⟨⟨by unfold inI64; omega⟩, ?_⟩
      conv => whnf
      repeat (first | ((with_reducible first | apply ga | apply gb | apply gc | apply gd | apply ge | apply gf | apply gg | apply gh | apply gi | apply gj); conv => whnf) | (refine ⟨⟨rfl, rfl, nle rfl, nle rfl⟩, ?_⟩; conv => whnf) | fail)
      refine ⟨(i + 1, L, g), ⟨hlt, by dsimp only; omega, by dsimp only; rw [← fl_skip (.inl hb)]; exact hL⟩, SubS.mkN [] [(1003, 1003)] rfl rfl rfl ⟨⟨_, rfl, .same⟩, ⟨_, rfl, .row _ _ _ _ _ _ _ _ _ rfl rfl rfl rfl⟩, ⟨_, rfl, .same⟩, trivial⟩ ⟨.inl ⟨_, _, rfl, rfl, rfl, rfl, rfl, rfl, Nat.le_refl _, fun _ _ _ _ => .same⟩, trivial⟩, by dsimp only; omega⟩
    · obtain ⟨k, hk⟩ : ∃ k, k = i + (word (s.drop i)).length := ⟨_, rfl⟩
      have hwl : (word (s.drop i)).length ≤ (s.drop i).length := tw_le _
      have hkl : k ≤ s.length := by simp at hwl; omega
      have hik : i < k := by
        rcases Nat.lt_or_ge i k with h | h
        · exact h
        · have := word_end hk (by omega)
          rw [show k = i by omega, hb] at this; cases this
      conv => whnf
      repeat (first | ((with_reducible first | apply ga | apply gb | apply gc | apply gd | apply ge | apply gf | apply gg | apply gh | apply gi | apply gj); conv => whnf) | (refine ⟨⟨rfl, rfl, nle rfl, nle rfl⟩, ?_⟩; conv => whnf) | fail)
      refine ex_loop tab_ok mixed (fun j => i ≤ j ∧ j ≤ k) (fun j : Nat => mkSt 41 [(0, st s), (3, .row 1003 g 2 0 L.length), (4, i64 i), (5, i64 j)] [(1003, fldO g L)]) (fun j => k - j) i ⟨Nat.le_refl _, by omega⟩ (SubS.mkN [] [(1003, 1003)] rfl rfl rfl ⟨⟨_, rfl, .same⟩, ⟨_, rfl, .row _ _ _ _ _ _ _ _ _ rfl rfl rfl rfl⟩, ⟨_, rfl, .same⟩, ⟨_, rfl, .same⟩, trivial⟩ ⟨.inl ⟨_, _, rfl, rfl, rfl, rfl, rfl, rfl, Nat.le_refl _, fun _ _ _ _ => .same⟩, trivial⟩) ?_
      rintro j ⟨hij, hjk⟩
      conv => whnf
      repeat (first | ((with_reducible first | apply ga | apply gb | apply gc | apply gd | apply ge | apply gf | apply gg | apply gh | apply gi | apply gj); conv => whnf) | (refine ⟨⟨rfl, rfl, nle rfl, nle rfl⟩, ?_⟩; conv => whnf) | fail)
      refine ⟨fun hj => ?_, fun hj => ?_⟩ <;> replace hj := nm hj <;> (try simp only [Int.toNat_zero] at hj) <;> (try simp only [Int.toNat_one] at hj)
      · conv => whnf
        repeat (first | ((with_reducible first | apply ga | apply gb | apply gc | apply gd | apply ge | apply gf | apply gg | apply gh | apply gi | apply gj); conv => whnf) | (refine ⟨⟨rfl, rfl, nle rfl, nle rfl⟩, ?_⟩; conv => whnf) | fail)
        refine ⟨⟨by omega, by omega⟩, ?_⟩
        conv => whnf
        repeat (first | ((with_reducible first | apply ga | apply gb | apply gc | apply gd | apply ge | apply gf | apply gg | apply gh | apply gi | apply gj); conv => whnf) | (refine ⟨⟨rfl, rfl, nle rfl, nle rfl⟩, ?_⟩; conv => whnf) | fail)
        rw [show ((j : Int)).toNat = j from Int.toNat_natCast _]
        refine CallK.flat [] (f56 (s.getD j 0)) ⟨.same, trivial⟩ rfl ?_
        conv => whnf
        repeat (first | ((with_reducible first | apply ga | apply gb | apply gc | apply gd | apply ge | apply gf | apply gg | apply gh | apply gi | apply gj); conv => whnf) | (refine ⟨⟨rfl, rfl, nle rfl, nle rfl⟩, ?_⟩; conv => whnf) | fail)
        refine ⟨fun hb2 => ?_, fun hb2 => ?_⟩ <;> replace hb2 := nm hb2 <;> (try simp only [Int.toNat_zero] at hb2) <;> (try simp only [Int.toNat_one] at hb2)
        · have hjk2 : j < k := by
            rcases Nat.lt_or_ge j k with h | h
            · exact h
            · obtain rfl : j = k := by omega
              rw [word_end hk (by omega)] at hb2; cases hb2
          conv => whnf
          repeat (first | ((with_reducible first | apply ga | apply gb | apply gc | apply gd | apply ge | apply gf | apply gg | apply gh | apply gi | apply gj); conv => whnf) | (refine ⟨⟨rfl, rfl, nle rfl, nle rfl⟩, ?_⟩; conv => whnf) | fail)
          refine ⟨⟨by unfold inI64; omega⟩, ?_⟩
          conv => whnf
          repeat (first | ((with_reducible first | apply ga | apply gb | apply gc | apply gd | apply ge | apply gf | apply gg | apply gh | apply gi | apply gj); conv => whnf) | (refine ⟨⟨rfl, rfl, nle rfl, nle rfl⟩, ?_⟩; conv => whnf) | fail)
          exact ⟨j + 1, ⟨by omega, by omega⟩, SubS.mkN [] [(1003, 1003)] rfl rfl rfl ⟨⟨_, rfl, .same⟩, ⟨_, rfl, .row _ _ _ _ _ _ _ _ _ rfl rfl rfl rfl⟩, ⟨_, rfl, .same⟩, ⟨_, rfl, .same⟩, trivial⟩ ⟨.inl ⟨_, _, rfl, rfl, rfl, rfl, rfl, rfl, Nat.le_refl _, fun _ _ _ _ => .same⟩, trivial⟩, by omega⟩
        · obtain rfl : k = j := by
            rcases Nat.lt_or_ge j k with h | h
            · rw [word_in hij (by omega)] at hb2; cases hb2
            · omega
          clear hb2 hj hij hjk
          have hstep := fl_step hlt hk
          rw [if_pos hik] at hstep
          have hfk : fl s k = fl s (k + 1) := fl_skip (by
            rcases Nat.lt_or_ge k s.length with h | h
            · exact .inl (word_end hk h)
            · exact .inr h)
          conv => whnf
          repeat (first | ((with_reducible first | apply ga | apply gb | apply gc | apply gd | apply ge | apply gf | apply gg | apply gh | apply gi | apply gj); conv => whnf) | (refine ⟨⟨rfl, rfl, nle rfl, nle rfl⟩, ?_⟩; conv => whnf) | fail)
          refine ⟨⟨by omega, by omega, by omega⟩, ?_⟩
          conv => whnf
          repeat (first | ((with_reducible first | apply ga | apply gb | apply gc | apply gd | apply ge | apply gf | apply gg | apply gh | apply gi | apply gj); conv => whnf) | (refine ⟨⟨rfl, rfl, nle rfl, nle rfl⟩, ?_⟩; conv => whnf) | fail)
          refine ⟨⟨⟨rfl, rfl, rfl, nle rfl⟩, rfl, rfl, rfl, rfl, rfl, rfl, show (L.length + 1) * 24 ≤ 140737488355328 by omega⟩, ?_⟩
          conv => whnf
          repeat (first | ((with_reducible first | apply ga | apply gb | apply gc | apply gd | apply ge | apply gf | apply gg | apply gh | apply gi | apply gj); conv => whnf) | (refine ⟨⟨rfl, rfl, nle rfl, nle rfl⟩, ?_⟩; conv => whnf) | fail)
          refine ⟨(k, L ++ [(i, (s.take k).drop i)], g + 1), ⟨hkl, by dsimp only; rw [List.length_append, List.length_singleton]; omega, by dsimp only; rw [← hL, hstep, hfk, List.append_assoc]⟩, SubS.mkN [] [(1003, 1003)] rfl rfl rfl ⟨⟨_, rfl, .same⟩, ⟨_, rfl, ?_⟩, ⟨_, rfl, .same⟩, trivial⟩ ⟨.inl ⟨_, _, rfl, rfl, rfl, rfl, rfl, rfl, (by simp [fldO]), fun a b ha hb => ?_⟩, trivial⟩, by dsimp only; omega⟩
          · exact .row _ _ _ _ _ _ _ _ _ rfl rfl rfl (by simp)
          · have ha : a < L.length + 1 := by simpa [fldO] using ha
            have e2 : (s.take (k : Int).toNat).drop (i : Int).toNat = (s.take k).drop i := by rw [Int.toNat_natCast, Int.toNat_natCast]
            dsimp only
            refine VLe.snoc ha (fun h => ?_) fun h => ?_
            · show VLe _ _ _ _ (.pv (fcell ((L ++ [(i, (s.take k).drop i)]).getD a (0, [])) b))
              rw [show (L ++ [(i, (s.take k).drop i)]).getD a (0, []) = L.getD a (0, []) by rw [List.getD_eq_getElem?_getD, List.getD_eq_getElem?_getD, List.getElem?_append_left h]]
              exact .same
            · show VLe _ _ _ _ (.pv (fcell ((L ++ [(i, (s.take k).drop i)]).getD a (0, [])) b))
              rw [show (L ++ [(i, (s.take k).drop i)]).getD a (0, []) = (i, (s.take k).drop i) by subst h; simp [List.getD_eq_getElem?_getD], ← e2]
              match b with
              | 0 => exact .same
              | 1 => exact .same
      · obtain rfl : k = j := by omega
        clear hj hij hjk
        have hstep := fl_step hlt hk
        rw [if_pos hik] at hstep
        have hfk : fl s k = fl s (k + 1) := fl_skip (by
          rcases Nat.lt_or_ge k s.length with h | h
          · exact .inl (word_end hk h)
          · exact .inr h)
        conv => whnf
        repeat (first | ((with_reducible first | apply ga | apply gb | apply gc | apply gd | apply ge | apply gf | apply gg | apply gh | apply gi | apply gj); conv => whnf) | (refine ⟨⟨rfl, rfl, nle rfl, nle rfl⟩, ?_⟩; conv => whnf) | fail)
        refine ⟨⟨by omega, by omega, by omega⟩, ?_⟩
        conv => whnf
        repeat (first | ((with_reducible first | apply ga | apply gb | apply gc | apply gd | apply ge | apply gf | apply gg | apply gh | apply gi | apply gj); conv => whnf) | (refine ⟨⟨rfl, rfl, nle rfl, nle rfl⟩, ?_⟩; conv => whnf) | fail)
        refine ⟨⟨⟨rfl, rfl, rfl, nle rfl⟩, rfl, rfl, rfl, rfl, rfl, rfl, show (L.length + 1) * 24 ≤ 140737488355328 by omega⟩, ?_⟩
        conv => whnf
        repeat (first | ((with_reducible first | apply ga | apply gb | apply gc | apply gd | apply ge | apply gf | apply gg | apply gh | apply gi | apply gj); conv => whnf) | (refine ⟨⟨rfl, rfl, nle rfl, nle rfl⟩, ?_⟩; conv => whnf) | fail)
        refine ⟨(k, L ++ [(i, (s.take k).drop i)], g + 1), ⟨hkl, by dsimp only; rw [List.length_append, List.length_singleton]; omega, by dsimp only; rw [← hL, hstep, hfk, List.append_assoc]⟩, SubS.mkN [] [(1003, 1003)] rfl rfl rfl ⟨⟨_, rfl, .same⟩, ⟨_, rfl, ?_⟩, ⟨_, rfl, .same⟩, trivial⟩ ⟨.inl ⟨_, _, rfl, rfl, rfl, rfl, rfl, rfl, (by simp [fldO]), fun a b ha hb => ?_⟩, trivial⟩, by dsimp only; omega⟩
        · exact .row _ _ _ _ _ _ _ _ _ rfl rfl rfl (by simp)
        · have ha : a < L.length + 1 := by simpa [fldO] using ha
          have e2 : (s.take (k : Int).toNat).drop (i : Int).toNat = (s.take k).drop i := by rw [Int.toNat_natCast, Int.toNat_natCast]
          dsimp only
          refine VLe.snoc ha (fun h => ?_) fun h => ?_
          · show VLe _ _ _ _ (.pv (fcell ((L ++ [(i, (s.take k).drop i)]).getD a (0, [])) b))
            rw [show (L ++ [(i, (s.take k).drop i)]).getD a (0, []) = L.getD a (0, []) by rw [List.getD_eq_getElem?_getD, List.getD_eq_getElem?_getD, List.getElem?_append_left h]]
            exact .same
          · show VLe _ _ _ _ (.pv (fcell ((L ++ [(i, (s.take k).drop i)]).getD a (0, [])) b))
            rw [show (L ++ [(i, (s.take k).drop i)]).getD a (0, []) = (i, (s.take k).drop i) by subst h; simp [List.getD_eq_getElem?_getD], ← e2]
            match b with
            | 0 => exact .same
            | 1 => exact .same
  · conv => whnf
    repeat (first | ((with_reducible first | apply ga | apply gb | apply gc | apply gd | apply ge | apply gf | apply gg | apply gh | apply gi | apply gj); conv => whnf) | (refine ⟨⟨rfl, rfl, nle rfl, nle rfl⟩, ?_⟩; conv => whnf) | fail)
    rw [fl_end (by omega), List.append_nil] at hL
    rw [← hL]
    refine ⟨[1003], .frz _ _ _ _ _ _ _ _ rfl rfl rfl rfl (by simp [fldO]) fun i j hi hj => ?_⟩
    rw [Nat.zero_add]
    exact .same
end Go.Proofs.YtdoeiccibhabcaaDoor

namespace Go.Proofs.YtdoeiccibhabcaaDoor
open Go Go.AM
attribute [local irreducible] AWP CallK PureCall SubS HeapCall
theorem dropD {F : List (Nat × List UInt8)} {i : Nat} (h : i < F.length) : F.drop i = F.getD i (0, []) :: F.drop (i + 1) := by
  rw [List.drop_eq_getElem_cons h]; simp [h]
theorem memD {F : List (Nat × List UInt8)} {i : Nat} (h : i < F.length) : F.getD i (0, []) ∈ F := by
  rw [List.getD_eq_getElem?_getD, List.getElem?_eq_getElem h]; exact List.getElem_mem h
def Sr (F : List (Nat × List UInt8)) (k : Nat) (o : Line) : ASt := mkSt 106 [(2, .ptr 2 0 5 0 0), (3, i64 0), (4, i64 0), (5, .pv (fldP F)), (6, .ptr 6 0 5 0 0), (7, i64 k)] [(2, lineO lz), (6, lineO o)]
set_option maxHeartbeats 4000000 in
theorem f22_tail (c : Code) (hc : Tryd.f22.body = some c) (s : List UInt8) (F : List (Nat × List UInt8)) (hB : ∀ p ∈ F, p.2.length ≤ 120 ∧ p.1 ≤ 120) (hFl : F.length < 2 ^ 40) (k : Nat) (hk : k ≤ 1) (o : Line) (hR : scan s = scanF (F.drop k) 1 o) :
    AWP Tryd.prog (tailN 6 c) (finQ tab Tryd.f22.results.toList fun v H => ∃ B, VLe H B [] v (scanT (scan s))) (Sr F k o) := by
  cases hc
  refine ex_sound tab_ok mixed _ _ _ ?_
  conv => whnf
  repeat (first | ((with_reducible first | apply ga | apply gb | apply gc | apply gd | apply ge | apply gf | apply gg | apply gh | apply gi | apply gj); conv => whnf) | (refine ⟨⟨rfl, rfl, nle rfl, nle rfl⟩, ?_⟩; conv => whnf) | fail)
  refine ⟨fun h1 => ?_, fun h1 => ?_⟩ <;> replace h1 := nm h1 <;> (try simp only [Int.toNat_zero] at h1) <;> (try simp only [Int.toNat_one] at h1)
  · have h1' : k < F.length := by omega
    have hpB := hB _ (memD h1')
    rw [dropD h1', scanF, if_pos (by omega)] at hR
    conv => whnf
    repeat (first | ((with_reducible first | apply ga | apply gb | apply gc | apply gd | apply ge | apply gf | apply gg | apply gh | apply gi | apply gj); conv => whnf) | (refine ⟨⟨rfl, rfl, nle rfl, nle rfl⟩, ?_⟩; conv => whnf) | fail)
    refine ⟨⟨by omega, by omega, rfl⟩, ?_⟩
    conv => whnf
    repeat (first | ((with_reducible first | apply ga | apply gb | apply gc | apply gd | apply ge | apply gf | apply gg | apply gh | apply gi | apply gj); conv => whnf) | (refine ⟨⟨rfl, rfl, nle rfl, nle rfl⟩, ?_⟩; conv => whnf) | fail)
    refine ⟨⟨by decide⟩, ?_⟩
    conv => whnf
    repeat (first | ((with_reducible first | apply ga | apply gb | apply gc | apply gd | apply ge | apply gf | apply gg | apply gh | apply gi | apply gj); conv => whnf) | (refine ⟨⟨rfl, rfl, nle rfl, nle rfl⟩, ?_⟩; conv => whnf) | fail)
    refine ⟨⟨by decide⟩, ?_⟩
    conv => whnf
    repeat (first | ((with_reducible first | apply ga | apply gb | apply gc | apply gd | apply ge | apply gf | apply gg | apply gh | apply gi | apply gj); conv => whnf) | (refine ⟨⟨rfl, rfl, nle rfl, nle rfl⟩, ?_⟩; conv => whnf) | fail)
    refine CallK.flat [] (f17 (F.getD k (0, [])).2 (by unfold B62; omega)) ⟨.same, trivial⟩ rfl ?_
    conv => whnf
    repeat (first | ((with_reducible first | apply ga | apply gb | apply gc | apply gd | apply ge | apply gf | apply gg | apply gh | apply gi | apply gj); conv => whnf) | (refine ⟨⟨rfl, rfl, nle rfl, nle rfl⟩, ?_⟩; conv => whnf) | fail)
    refine ⟨fun hn => ?_, fun hn => ?_⟩ <;> replace hn := nm hn <;> (try simp only [Int.toNat_zero] at hn) <;> (try simp only [Int.toNat_one] at hn)
    · conv => whnf
      repeat (first | ((with_reducible first | apply ga | apply gb | apply gc | apply gd | apply ge | apply gf | apply gg | apply gh | apply gi | apply gj); conv => whnf) | (refine ⟨⟨rfl, rfl, nle rfl, nle rfl⟩, ?_⟩; conv => whnf) | fail)
      refine ⟨⟨by omega, by omega, rfl⟩, ?_⟩
      conv => whnf
      repeat (first | ((with_reducible first | apply ga | apply gb | apply gc | apply gd | apply ge | apply gf | apply gg | apply gh | apply gi | apply gj); conv => whnf) | (refine ⟨⟨rfl, rfl, nle rfl, nle rfl⟩, ?_⟩; conv => whnf) | fail)
      refine ⟨⟨by decide⟩, ?_⟩
      conv => whnf
      repeat (first | ((with_reducible first | apply ga | apply gb | apply gc | apply gd | apply ge | apply gf | apply gg | apply gh | apply gi | apply gj); conv => whnf) | (refine ⟨⟨rfl, rfl, nle rfl, nle rfl⟩, ?_⟩; conv => whnf) | fail)
      refine ⟨⟨by decide⟩, ?_⟩
      conv => whnf
      repeat (first | ((with_reducible first | apply ga | apply gb | apply gc | apply gd | apply ge | apply gf | apply gg | apply gh | apply gi | apply gj); conv => whnf) | (refine ⟨⟨rfl, rfl, nle rfl, nle rfl⟩, ?_⟩; conv => whnf) | fail)
      refine ⟨rfl, ?_⟩
      conv => whnf
      repeat (first | ((with_reducible first | apply ga | apply gb | apply gc | apply gd | apply ge | apply gf | apply gg | apply gh | apply gi | apply gj); conv => whnf) | (refine ⟨⟨rfl, rfl, nle rfl, nle rfl⟩, ?_⟩; conv => whnf) | fail)
      have hX : scan s = (lz, ((F.getD k (0, [])).1 : Int), 5) := by rw [hR, if_neg (by rw [hn]; decide)]
      rw [hX]
      exact done_tup [Line.av lz, i64 (((F.getD k (0, [])).1 : Int)), i64 (5)] [] rfl ⟨agg5 .same .same .same .same .same, .same, .same, trivial⟩
    · rw [if_pos hn] at hR
      conv => whnf
      repeat (first | ((with_reducible first | apply ga | apply gb | apply gc | apply gd | apply ge | apply gf | apply gg | apply gh | apply gi | apply gj); conv => whnf) | (refine ⟨⟨rfl, rfl, nle rfl, nle rfl⟩, ?_⟩; conv => whnf) | fail)
      refine ⟨⟨by omega, by omega, rfl⟩, ?_⟩
      conv => whnf
      repeat (first | ((with_reducible first | apply ga | apply gb | apply gc | apply gd | apply ge | apply gf | apply gg | apply gh | apply gi | apply gj); conv => whnf) | (refine ⟨⟨rfl, rfl, nle rfl, nle rfl⟩, ?_⟩; conv => whnf) | fail)
      refine ⟨⟨by decide⟩, ?_⟩
      conv => whnf
      repeat (first | ((with_reducible first | apply ga | apply gb | apply gc | apply gd | apply ge | apply gf | apply gg | apply gh | apply gi | apply gj); conv => whnf) | (refine ⟨⟨rfl, rfl, nle rfl, nle rfl⟩, ?_⟩; conv => whnf) | fail)
      refine ⟨⟨by decide⟩, ?_⟩
      conv => whnf
      repeat (first | ((with_reducible first | apply ga | apply gb | apply gc | apply gd | apply ge | apply gf | apply gg | apply gh | apply gi | apply gj); conv => whnf) | (refine ⟨⟨rfl, rfl, nle rfl, nle rfl⟩, ?_⟩; conv => whnf) | fail)
      refine ⟨⟨by unfold inI64; omega⟩, ?_⟩
      conv => whnf
      repeat (first | ((with_reducible first | apply ga | apply gb | apply gc | apply gd | apply ge | apply gf | apply gg | apply gh | apply gi | apply gj); conv => whnf) | (refine ⟨⟨rfl, rfl, nle rfl, nle rfl⟩, ?_⟩; conv => whnf) | fail)
      refine ⟨fun h2 => ?_, fun h2 => ?_⟩ <;> replace h2 := nm h2 <;> (try simp only [Int.toNat_zero] at h2) <;> (try simp only [Int.toNat_one] at h2)
      · have h2' : k + 1 < F.length := by omega
        have hqB := hB _ (memD h2')
        have hat := opnd_at (F.getD (k + 1) (0, [])).2
        rw [dropD h2', scanF, if_neg (by omega), if_pos rfl] at hR
        conv => whnf
        repeat (first | ((with_reducible first | apply ga | apply gb | apply gc | apply gd | apply ge | apply gf | apply gg | apply gh | apply gi | apply gj); conv => whnf) | (refine ⟨⟨rfl, rfl, nle rfl, nle rfl⟩, ?_⟩; conv => whnf) | fail)
        refine ⟨⟨by unfold inI64; omega⟩, ?_⟩
        conv => whnf
        repeat (first | ((with_reducible first | apply ga | apply gb | apply gc | apply gd | apply ge | apply gf | apply gg | apply gh | apply gi | apply gj); conv => whnf) | (refine ⟨⟨rfl, rfl, nle rfl, nle rfl⟩, ?_⟩; conv => whnf) | fail)
        refine ⟨⟨by omega, by omega, rfl⟩, ?_⟩
        conv => whnf
        repeat (first | ((with_reducible first | apply ga | apply gb | apply gc | apply gd | apply ge | apply gf | apply gg | apply gh | apply gi | apply gj); conv => whnf) | (refine ⟨⟨rfl, rfl, nle rfl, nle rfl⟩, ?_⟩; conv => whnf) | fail)
        refine ⟨⟨by decide⟩, ?_⟩
        conv => whnf
        repeat (first | ((with_reducible first | apply ga | apply gb | apply gc | apply gd | apply ge | apply gf | apply gg | apply gh | apply gi | apply gj); conv => whnf) | (refine ⟨⟨rfl, rfl, nle rfl, nle rfl⟩, ?_⟩; conv => whnf) | fail)
        refine ⟨⟨by decide⟩, ?_⟩
        conv => whnf
        repeat (first | ((with_reducible first | apply ga | apply gb | apply gc | apply gd | apply ge | apply gf | apply gg | apply gh | apply gi | apply gj); conv => whnf) | (refine ⟨⟨rfl, rfl, nle rfl, nle rfl⟩, ?_⟩; conv => whnf) | fail)
        refine CallK.flat [] (f20 (F.getD (k + 1) (0, [])).2 (by unfold B62; omega)) ⟨.same, trivial⟩ rfl ?_
        conv => whnf
        repeat (first | ((with_reducible first | apply ga | apply gb | apply gc | apply gd | apply ge | apply gf | apply gg | apply gh | apply gi | apply gj); conv => whnf) | (refine ⟨⟨rfl, rfl, nle rfl, nle rfl⟩, ?_⟩; conv => whnf) | fail)
        refine ⟨fun he => ?_, fun he => ?_⟩ <;> replace he := nm he <;> (try simp only [Int.toNat_zero] at he) <;> (try simp only [Int.toNat_one] at he)
        · conv => whnf
          repeat (first | ((with_reducible first | apply ga | apply gb | apply gc | apply gd | apply ge | apply gf | apply gg | apply gh | apply gi | apply gj); conv => whnf) | (refine ⟨⟨rfl, rfl, nle rfl, nle rfl⟩, ?_⟩; conv => whnf) | fail)
          refine ⟨⟨by unfold inI64; omega⟩, ?_⟩
          conv => whnf
          repeat (first | ((with_reducible first | apply ga | apply gb | apply gc | apply gd | apply ge | apply gf | apply gg | apply gh | apply gi | apply gj); conv => whnf) | (refine ⟨⟨rfl, rfl, nle rfl, nle rfl⟩, ?_⟩; conv => whnf) | fail)
          refine ⟨⟨by omega, by omega, rfl⟩, ?_⟩
          conv => whnf
          repeat (first | ((with_reducible first | apply ga | apply gb | apply gc | apply gd | apply ge | apply gf | apply gg | apply gh | apply gi | apply gj); conv => whnf) | (refine ⟨⟨rfl, rfl, nle rfl, nle rfl⟩, ?_⟩; conv => whnf) | fail)
          refine ⟨⟨by decide⟩, ?_⟩
          conv => whnf
          repeat (first | ((with_reducible first | apply ga | apply gb | apply gc | apply gd | apply ge | apply gf | apply gg | apply gh | apply gi | apply gj); conv => whnf) | (refine ⟨⟨rfl, rfl, nle rfl, nle rfl⟩, ?_⟩; conv => whnf) | fail)
          refine ⟨⟨by decide⟩, ?_⟩
          conv => whnf
          repeat (first | ((with_reducible first | apply ga | apply gb | apply gc | apply gd | apply ge | apply gf | apply gg | apply gh | apply gi | apply gj); conv => whnf) | (refine ⟨⟨rfl, rfl, nle rfl, nle rfl⟩, ?_⟩; conv => whnf) | fail)
          refine ⟨⟨by show inI64 (((F.getD ((k : Int) + 1).toNat (0, [])).1 : Int) + _); rw [show ((k : Int) + 1).toNat = k + 1 by omega]; unfold inI64; omega⟩, ?_⟩
          conv => whnf
          repeat (first | ((with_reducible first | apply ga | apply gb | apply gc | apply gd | apply ge | apply gf | apply gg | apply gh | apply gi | apply gj); conv => whnf) | (refine ⟨⟨rfl, rfl, nle rfl, nle rfl⟩, ?_⟩; conv => whnf) | fail)
          refine ⟨rfl, ?_⟩
          conv => whnf
          repeat (first | ((with_reducible first | apply ga | apply gb | apply gc | apply gd | apply ge | apply gf | apply gg | apply gh | apply gi | apply gj); conv => whnf) | (refine ⟨⟨rfl, rfl, nle rfl, nle rfl⟩, ?_⟩; conv => whnf) | fail)
          have hX : scan s = (lz, ((F.getD (k + 1) (0, [])).1 : Int) + (opnd (F.getD (k + 1) (0, [])).2).2.1, (opnd (F.getD (k + 1) (0, [])).2).2.2) := by rw [hR, if_pos he]
          rw [hX]
          exact done_tup [Line.av lz, i64 (((F.getD (k + 1) (0, [])).1 : Int) + (opnd (F.getD (k + 1) (0, [])).2).2.1), i64 ((opnd (F.getD (k + 1) (0, [])).2).2.2)] [] rfl ⟨agg5 .same .same .same .same .same, .same, .same, trivial⟩
        · rw [if_neg (fun h => h he)] at hR
          conv => whnf
          repeat (first | ((with_reducible first | apply ga | apply gb | apply gc | apply gd | apply ge | apply gf | apply gg | apply gh | apply gi | apply gj); conv => whnf) | (refine ⟨⟨rfl, rfl, nle rfl, nle rfl⟩, ?_⟩; conv => whnf) | fail)
          refine ⟨⟨by unfold inI64; omega⟩, ?_⟩
          conv => whnf
          repeat (first | ((with_reducible first | apply ga | apply gb | apply gc | apply gd | apply ge | apply gf | apply gg | apply gh | apply gi | apply gj); conv => whnf) | (refine ⟨⟨rfl, rfl, nle rfl, nle rfl⟩, ?_⟩; conv => whnf) | fail)
          refine ⟨fun h3 => ?_, fun h3 => ?_⟩ <;> replace h3 := nm h3 <;> (try simp only [Int.toNat_zero] at h3) <;> (try simp only [Int.toNat_one] at h3)
          · have hl3 : k + 2 < F.length := by omega
            rw [dropD hl3] at hR
            conv => whnf
            repeat (first | ((with_reducible first | apply ga | apply gb | apply gc | apply gd | apply ge | apply gf | apply gg | apply gh | apply gi | apply gj); conv => whnf) | (refine ⟨⟨rfl, rfl, nle rfl, nle rfl⟩, ?_⟩; conv => whnf) | fail)
            refine ⟨⟨by unfold inI64; omega⟩, ?_⟩
            conv => whnf
            repeat (first | ((with_reducible first | apply ga | apply gb | apply gc | apply gd | apply ge | apply gf | apply gg | apply gh | apply gi | apply gj); conv => whnf) | (refine ⟨⟨rfl, rfl, nle rfl, nle rfl⟩, ?_⟩; conv => whnf) | fail)
            refine ⟨⟨by omega, by omega, rfl⟩, ?_⟩
            conv => whnf
            repeat (first | ((with_reducible first | apply ga | apply gb | apply gc | apply gd | apply ge | apply gf | apply gg | apply gh | apply gi | apply gj); conv => whnf) | (refine ⟨⟨rfl, rfl, nle rfl, nle rfl⟩, ?_⟩; conv => whnf) | fail)
            refine ⟨⟨by decide⟩, ?_⟩
            conv => whnf
            repeat (first | ((with_reducible first | apply ga | apply gb | apply gc | apply gd | apply ge | apply gf | apply gg | apply gh | apply gi | apply gj); conv => whnf) | (refine ⟨⟨rfl, rfl, nle rfl, nle rfl⟩, ?_⟩; conv => whnf) | fail)
            refine ⟨⟨by decide⟩, ?_⟩
            conv => whnf
            repeat (first | ((with_reducible first | apply ga | apply gb | apply gc | apply gd | apply ge | apply gf | apply gg | apply gh | apply gi | apply gj); conv => whnf) | (refine ⟨⟨rfl, rfl, nle rfl, nle rfl⟩, ?_⟩; conv => whnf) | fail)
            refine ⟨rfl, ?_⟩
            conv => whnf
            repeat (first | ((with_reducible first | apply ga | apply gb | apply gc | apply gd | apply ge | apply gf | apply gg | apply gh | apply gi | apply gj); conv => whnf) | (refine ⟨⟨rfl, rfl, nle rfl, nle rfl⟩, ?_⟩; conv => whnf) | fail)
            have hX : scan s = (lz, ((F.getD (k + 2) (0, [])).1 : Int), 5) := by rw [hR, scanF, if_neg (by omega), if_neg (by omega)]
            rw [hX]
            exact done_tup [Line.av lz, i64 (((F.getD (k + 2) (0, [])).1 : Int)), i64 (5)] [] rfl ⟨agg5 .same .same .same .same .same, .same, .same, trivial⟩
          · have hl3 : F.drop (k + 2) = [] := List.drop_eq_nil_of_le (by omega)
            rw [hl3] at hR
            conv => whnf
            repeat (first | ((with_reducible first | apply ga | apply gb | apply gc | apply gd | apply ge | apply gf | apply gg | apply gh | apply gi | apply gj); conv => whnf) | (refine ⟨⟨rfl, rfl, nle rfl, nle rfl⟩, ?_⟩; conv => whnf) | fail)
            have hX : scan s = ((upd 2 (F.getD (k + 1) (0, [])).2 (upd 1 (F.getD k (0, [])).2 o)), 0, 0) := by rw [hR, scanF]
            rw [hX]
            exact done_tup [Line.av (upd 2 (F.getD (k + 1) (0, [])).2 (upd 1 (F.getD k (0, [])).2 o)), i64 0, i64 0] [] rfl ⟨agg5 .same .same .same .same .same, .same, .same, trivial⟩
      · have h2' : F.drop (k + 1) = [] := List.drop_eq_nil_of_le (by omega)
        rw [h2'] at hR
        conv => whnf
        repeat (first | ((with_reducible first | apply ga | apply gb | apply gc | apply gd | apply ge | apply gf | apply gg | apply gh | apply gi | apply gj); conv => whnf) | (refine ⟨⟨rfl, rfl, nle rfl, nle rfl⟩, ?_⟩; conv => whnf) | fail)
        refine ⟨⟨by unfold inI64; omega⟩, ?_⟩
        conv => whnf
        repeat (first | ((with_reducible first | apply ga | apply gb | apply gc | apply gd | apply ge | apply gf | apply gg | apply gh | apply gi | apply gj); conv => whnf) | (refine ⟨⟨rfl, rfl, nle rfl, nle rfl⟩, ?_⟩; conv => whnf) | fail)
        refine ⟨fun h3 => ?_, fun h3 => ?_⟩ <;> replace h3 := nm h3 <;> (try simp only [Int.toNat_zero] at h3) <;> (try simp only [Int.toNat_one] at h3)
        · exfalso; omega
        · conv => whnf
          repeat (first | ((with_reducible first | apply ga | apply gb | apply gc | apply gd | apply ge | apply gf | apply gg | apply gh | apply gi | apply gj); conv => whnf) | (refine ⟨⟨rfl, rfl, nle rfl, nle rfl⟩, ?_⟩; conv => whnf) | fail)
          have hX : scan s = ((upd 1 (F.getD k (0, [])).2 o), 0, 0) := by rw [hR, scanF]
          rw [hX]
          exact done_tup [Line.av (upd 1 (F.getD k (0, [])).2 o), i64 0, i64 0] [] rfl ⟨agg5 .same .same .same .same .same, .same, .same, trivial⟩
  · have h1' : F.drop k = [] := List.drop_eq_nil_of_le (by omega)
    rw [h1'] at hR
    conv => whnf
    repeat (first | ((with_reducible first | apply ga | apply gb | apply gc | apply gd | apply ge | apply gf | apply gg | apply gh | apply gi | apply gj); conv => whnf) | (refine ⟨⟨rfl, rfl, nle rfl, nle rfl⟩, ?_⟩; conv => whnf) | fail)
    refine ⟨⟨by unfold inI64; omega⟩, ?_⟩
    conv => whnf
    repeat (first | ((with_reducible first | apply ga | apply gb | apply gc | apply gd | apply ge | apply gf | apply gg | apply gh | apply gi | apply gj); conv => whnf) | (refine ⟨⟨rfl, rfl, nle rfl, nle rfl⟩, ?_⟩; conv => whnf) | fail)
    refine ⟨fun h2 => ?_, fun h2 => ?_⟩ <;> replace h2 := nm h2 <;> (try simp only [Int.toNat_zero] at h2) <;> (try simp only [Int.toNat_one] at h2)
    · exfalso; omega
    · conv => whnf
      repeat (first | ((with_reducible first | apply ga | apply gb | apply gc | apply gd | apply ge | apply gf | apply gg | apply gh | apply gi | apply gj); conv => whnf) | (refine ⟨⟨rfl, rfl, nle rfl, nle rfl⟩, ?_⟩; conv => whnf) | fail)
      refine ⟨⟨by unfold inI64; omega⟩, ?_⟩
      conv => whnf
      repeat (first | ((with_reducible first | apply ga | apply gb | apply gc | apply gd | apply ge | apply gf | apply gg | apply gh | apply gi | apply gj); conv => whnf) | (refine ⟨⟨rfl, rfl, nle rfl, nle rfl⟩, ?_⟩; conv => whnf) | fail)
      refine ⟨fun h3 => ?_, fun h3 => ?_⟩ <;> replace h3 := nm h3 <;> (try simp only [Int.toNat_zero] at h3) <;> (try simp only [Int.toNat_one] at h3)
      · exfalso; omega
      · conv => whnf
        repeat (first | ((with_reducible first | apply ga | apply gb | apply gc | apply gd | apply ge | apply gf | apply gg | apply gh | apply gi | apply gj); conv => whnf) | (refine ⟨⟨rfl, rfl, nle rfl, nle rfl⟩, ?_⟩; conv => whnf) | fail)
        have hX : scan s = (o, 0, 0) := by rw [hR, scanF]
        rw [hX]
        exact done_tup [Line.av o, i64 0, i64 0] [] rfl ⟨agg5 .same .same .same .same .same, .same, .same, trivial⟩
end Go.Proofs.YtdoeiccibhabcaaDoor

namespace Go.Proofs.YtdoeiccibhabcaaDoor
open Go Go.AM
attribute [local irreducible] AWP CallK PureCall SubS HeapCall
/-- Where the first field begins. -/
theorem flds_first : ∀ (s : List UInt8) (o : Nat) (cur : List UInt8) (p : Nat × List UInt8) (r : List (Nat × List UInt8)), cur.length ≤ o → flds o cur s = p :: r → (cur ≠ [] → p.1 = o - cur.length) ∧ (cur = [] → o ≤ p.1)
  | [], o, cur, p, r, hle, h => by
    simp only [flds] at h
    split at h
    · cases h
    · rename_i hc
      obtain ⟨rfl, _⟩ := List.cons.inj h
      exact ⟨fun _ => rfl, fun h => absurd (by rw [h]; rfl) hc⟩
  | c :: s, o, cur, p, r, hle, h => by
    simp only [flds] at h
    split at h
    · split at h
      · rename_i _ hc
        have hcur : cur = [] := by simpa using hc
        have := (flds_first s (o + 1) [] p r (by simp) h).2 rfl
        exact ⟨fun h => absurd hcur h, fun _ => by omega⟩
      · rename_i _ hc
        obtain ⟨rfl, _⟩ := List.cons.inj h
        exact ⟨fun _ => rfl, fun h => absurd (by rw [h]; rfl) hc⟩
    · have h1 := (flds_first s (o + 1) (cur ++ [c]) p r (by simp; omega) h).1 (by simp)
      simp only [List.length_append, List.length_singleton] at h1
      exact ⟨fun _ => by omega, fun h => by subst h; simp at h1; omega⟩
theorem fl_first {t : List UInt8} {p : Nat × List UInt8} {r : List (Nat × List UInt8)} (h : fl t 0 = p :: r) : nx t = 0 ↔ p.1 = 0 := by
  unfold fl at h
  rw [List.drop_zero] at h
  cases t with
  | nil => simp [flds] at h
  | cons c t =>
    have e : nx (c :: t) = if blank c then 1 else 0 := by unfold nx; simp
    rw [e]
    cases hb : blank c with
    | true =>
      simp only [flds, hb, if_true] at h
      have := (flds_first t 1 [] p r (by simp) h).2 rfl
      simp; omega
    | false =>
      simp only [flds, hb, Bool.false_eq_true, if_false] at h
      have := (flds_first t 1 [c] p r (by simp) h).1 (by simp)
      simp at this
      simp [this]
theorem fl_nil {t : List UInt8} (h : fl t 0 = []) : nx t = 1 := by
  cases t with
  | nil => rfl
  | cons c t =>
    cases hb : blank c with
    | true => unfold nx; simp [hb]
    | false =>
      exfalso
      unfold fl at h
      rw [List.drop_zero] at h
      simp only [flds, hb, Bool.false_eq_true, if_false] at h
      have key : ∀ (s : List UInt8) (o : Nat) (cur : List UInt8), cur ≠ [] → flds o cur s ≠ [] := by
        intro s
        induction s with
        | nil => intro o cur hc h; simp [flds, hc] at h
        | cons d s ih =>
          intro o cur hc h
          have hc' : (cur == []) = false := by simpa using hc
          simp only [flds, hc'] at h
          split at h
          · simp at h
          · exact ih _ _ (by simp) h
      exact key t 1 _ (by simp) h
theorem scan_len {s : List UInt8} (h : ¬ 120 < (s.length : Int)) : scan s = scanF (fl (bef 35 s) 0) (nx (bef 35 s)) lz := by rw [scan, if_neg h]
theorem flds_count : ∀ (s : List UInt8) (o : Nat) (cur : List UInt8), (flds o cur s).length ≤ cur.length + s.length
  | [], o, cur => by
    simp only [flds]
    split
    · simp
    · rename_i h; cases cur with
      | nil => exact absurd rfl h
      | cons _ _ => simp
  | c :: s, o, cur => by
    simp only [flds]
    split
    · split
      · have := flds_count s (o + 1) []; simp at this ⊢; omega
      · rename_i _ h
        have := flds_count s (o + 1) []
        cases cur with
        | nil => exact absurd rfl h
        | cons _ _ => simp at this ⊢; omega
    · have := flds_count s (o + 1) (cur ++ [c]); simp at this ⊢; omega
set_option maxHeartbeats 2000000 in
theorem f22 (s : List UInt8) (hs : B62 s) : PureCall Tryd.prog 22 [st s] (scanT (scan s)) := by
  refine PureCall.runC tab_ok mixed (by kernel_rfl) Tryd.func22 rfl rfl rfl 6 ?_
  conv => whnf
  repeat (first | ((with_reducible first | apply ga | apply gb | apply gc | apply gd | apply ge | apply gf | apply gg | apply gh | apply gi | apply gj); conv => whnf) | (refine ⟨⟨rfl, rfl, nle rfl, nle rfl⟩, ?_⟩; conv => whnf) | fail)
  refine ⟨fun hL => ?_, fun hL => ?_⟩ <;> replace hL := nm hL <;> (try simp only [Int.toNat_zero] at hL) <;> (try simp only [Int.toNat_one] at hL)
  · conv => whnf
    repeat (first | ((with_reducible first | apply ga | apply gb | apply gc | apply gd | apply ge | apply gf | apply gg | apply gh | apply gi | apply gj); conv => whnf) | (refine ⟨⟨rfl, rfl, nle rfl, nle rfl⟩, ?_⟩; conv => whnf) | fail)
    have hX : scan s = (lz, 120, 4) := by rw [scan, if_pos hL]
    rw [hX]
    exact done_tup [Line.av lz, i64 120, i64 4] [] rfl ⟨agg5 .same .same .same .same .same, .same, .same, trivial⟩
  · conv => whnf
    repeat (first | ((with_reducible first | apply ga | apply gb | apply gc | apply gd | apply ge | apply gf | apply gg | apply gh | apply gi | apply gj); conv => whnf) | (refine ⟨⟨rfl, rfl, nle rfl, nle rfl⟩, ?_⟩; conv => whnf) | fail)
    refine CallK.flat [] (f46 s hs) ⟨.same, trivial⟩ rfl ?_
    conv => whnf
    repeat (first | ((with_reducible first | apply ga | apply gb | apply gc | apply gd | apply ge | apply gf | apply gg | apply gh | apply gi | apply gj); conv => whnf) | (refine ⟨⟨rfl, rfl, nle rfl, nle rfl⟩, ?_⟩; conv => whnf) | fail)
    have hscan := scan_len (Int.not_lt.mpr hL)
    obtain ⟨t, ht⟩ : ∃ t, bef 35 s = t := ⟨_, rfl⟩
    have htl : t.length ≤ 120 := by have := bef_le 35 s; rw [ht] at this; omega
    rw [ht] at hscan
    rw [ht]
    refine CallK.drop [] (f45 t (by omega)) ⟨.same, trivial⟩ ?_
    conv => whnf
    repeat (first | ((with_reducible first | apply ga | apply gb | apply gc | apply gd | apply ge | apply gf | apply gg | apply gh | apply gi | apply gj); conv => whnf) | (refine ⟨⟨rfl, rfl, nle rfl, nle rfl⟩, ?_⟩; conv => whnf) | fail)
    obtain ⟨F, hF⟩ : ∃ F, fl t 0 = F := ⟨_, rfl⟩
    have hB : ∀ p ∈ F, p.2.length ≤ 120 ∧ p.1 ≤ 120 := fun p hp => by have := fl_bd (s := t) (p := p) (by rw [hF]; exact hp); omega
    have hFl : F.length < 2 ^ 40 := by have := flds_count t 0 []; unfold fl at hF; rw [List.drop_zero] at hF; rw [hF] at this; simp at this; omega
    rw [hF] at hscan
    rw [hF]
    refine ⟨fun h0 => ?_, fun h0 => ?_⟩ <;> replace h0 := nm h0 <;> (try simp only [Int.toNat_zero] at h0) <;> (try simp only [Int.toNat_one] at h0)
    · have h0' : 0 < F.length := by omega
      have hd := dropD h0'
      rw [List.drop_zero] at hd
      have hfirst := fl_first (hF.trans hd)
      have hpB := hB _ (memD h0')
      conv => whnf
      repeat (first | ((with_reducible first | apply ga | apply gb | apply gc | apply gd | apply ge | apply gf | apply gg | apply gh | apply gi | apply gj); conv => whnf) | (refine ⟨⟨rfl, rfl, nle rfl, nle rfl⟩, ?_⟩; conv => whnf) | fail)
      refine ⟨⟨by omega, by omega, rfl⟩, ?_⟩
      conv => whnf
      repeat (first | ((with_reducible first | apply ga | apply gb | apply gc | apply gd | apply ge | apply gf | apply gg | apply gh | apply gi | apply gj); conv => whnf) | (refine ⟨⟨rfl, rfl, nle rfl, nle rfl⟩, ?_⟩; conv => whnf) | fail)
      refine ⟨⟨by decide⟩, ?_⟩
      conv => whnf
      repeat (first | ((with_reducible first | apply ga | apply gb | apply gc | apply gd | apply ge | apply gf | apply gg | apply gh | apply gi | apply gj); conv => whnf) | (refine ⟨⟨rfl, rfl, nle rfl, nle rfl⟩, ?_⟩; conv => whnf) | fail)
      refine ⟨⟨by decide⟩, ?_⟩
      conv => whnf
      repeat (first | ((with_reducible first | apply ga | apply gb | apply gc | apply gd | apply ge | apply gf | apply gg | apply gh | apply gi | apply gj); conv => whnf) | (refine ⟨⟨rfl, rfl, nle rfl, nle rfl⟩, ?_⟩; conv => whnf) | fail)
      refine ⟨fun hat => ?_, fun hat => ?_⟩ <;> replace hat := nm hat <;> (try simp only [Int.toNat_zero] at hat) <;> (try simp only [Int.toNat_one] at hat)
      · have hn0 : nx t = 0 := hfirst.mpr (by have : ((F.getD 0 (0, [])).1 : Int) = 0 := hat; omega)
        have hat0 : (F.getD 0 (0, [])).1 = 0 := hfirst.mp hn0
        rw [hn0, hd, scanF, if_pos (by omega)] at hscan
        conv => whnf
        repeat (first | ((with_reducible first | apply ga | apply gb | apply gc | apply gd | apply ge | apply gf | apply gg | apply gh | apply gi | apply gj); conv => whnf) | (refine ⟨⟨rfl, rfl, nle rfl, nle rfl⟩, ?_⟩; conv => whnf) | fail)
        refine ⟨⟨by omega, by omega, rfl⟩, ?_⟩
        conv => whnf
        repeat (first | ((with_reducible first | apply ga | apply gb | apply gc | apply gd | apply ge | apply gf | apply gg | apply gh | apply gi | apply gj); conv => whnf) | (refine ⟨⟨rfl, rfl, nle rfl, nle rfl⟩, ?_⟩; conv => whnf) | fail)
        refine ⟨⟨by decide⟩, ?_⟩
        conv => whnf
        repeat (first | ((with_reducible first | apply ga | apply gb | apply gc | apply gd | apply ge | apply gf | apply gg | apply gh | apply gi | apply gj); conv => whnf) | (refine ⟨⟨rfl, rfl, nle rfl, nle rfl⟩, ?_⟩; conv => whnf) | fail)
        refine ⟨⟨by decide⟩, ?_⟩
        conv => whnf
        repeat (first | ((with_reducible first | apply ga | apply gb | apply gc | apply gd | apply ge | apply gf | apply gg | apply gh | apply gi | apply gj); conv => whnf) | (refine ⟨⟨rfl, rfl, nle rfl, nle rfl⟩, ?_⟩; conv => whnf) | fail)
        refine CallK.flat [] (f17 (F.getD 0 (0, [])).2 (by unfold B62; omega)) ⟨.same, trivial⟩ rfl ?_
        conv => whnf
        repeat (first | ((with_reducible first | apply ga | apply gb | apply gc | apply gd | apply ge | apply gf | apply gg | apply gh | apply gi | apply gj); conv => whnf) | (refine ⟨⟨rfl, rfl, nle rfl, nle rfl⟩, ?_⟩; conv => whnf) | fail)
        refine ⟨fun hn => ?_, fun hn => ?_⟩ <;> replace hn := nm hn <;> (try simp only [Int.toNat_zero] at hn) <;> (try simp only [Int.toNat_one] at hn)
        · conv => whnf
          repeat (first | ((with_reducible first | apply ga | apply gb | apply gc | apply gd | apply ge | apply gf | apply gg | apply gh | apply gi | apply gj); conv => whnf) | (refine ⟨⟨rfl, rfl, nle rfl, nle rfl⟩, ?_⟩; conv => whnf) | fail)
          have hX : scan s = (lz, 0, 5) := by rw [hscan, if_neg (by rw [hn]; decide), hat0]; rfl
          rw [hX]
          exact done_tup [Line.av lz, i64 0, i64 5] [] rfl ⟨agg5 .same .same .same .same .same, .same, .same, trivial⟩
        · rw [if_pos hn] at hscan
          conv => whnf
          repeat (first | ((with_reducible first | apply ga | apply gb | apply gc | apply gd | apply ge | apply gf | apply gg | apply gh | apply gi | apply gj); conv => whnf) | (refine ⟨⟨rfl, rfl, nle rfl, nle rfl⟩, ?_⟩; conv => whnf) | fail)
          refine ⟨⟨by omega, by omega, rfl⟩, ?_⟩
          conv => whnf
          repeat (first | ((with_reducible first | apply ga | apply gb | apply gc | apply gd | apply ge | apply gf | apply gg | apply gh | apply gi | apply gj); conv => whnf) | (refine ⟨⟨rfl, rfl, nle rfl, nle rfl⟩, ?_⟩; conv => whnf) | fail)
          refine ⟨⟨by decide⟩, ?_⟩
          conv => whnf
          repeat (first | ((with_reducible first | apply ga | apply gb | apply gc | apply gd | apply ge | apply gf | apply gg | apply gh | apply gi | apply gj); conv => whnf) | (refine ⟨⟨rfl, rfl, nle rfl, nle rfl⟩, ?_⟩; conv => whnf) | fail)
          refine ⟨⟨by decide⟩, ?_⟩
          conv => whnf
          repeat (first | ((with_reducible first | apply ga | apply gb | apply gc | apply gd | apply ge | apply gf | apply gg | apply gh | apply gi | apply gj); conv => whnf) | (refine ⟨⟨rfl, rfl, nle rfl, nle rfl⟩, ?_⟩; conv => whnf) | fail)
          exact AWP.sub (st' := Sr F 1 (upd 0 (F.getD 0 (0, [])).2 lz)) (SubS.mk [] rfl ⟨⟨_, rfl, .ptr _ _ _ _ _ _ _ _ _ rfl rfl rfl rfl⟩, ⟨_, rfl, .same⟩, ⟨_, rfl, .same⟩, ⟨_, rfl, .same⟩, ⟨_, rfl, .ptr _ _ _ _ _ _ _ _ _ rfl rfl rfl rfl⟩, ⟨_, rfl, .same⟩, trivial⟩ ⟨.inl ⟨_, _, rfl, rfl, rfl, ole5 rfl rfl rfl rfl rfl rfl .same .same .same .same .same⟩, .inl ⟨_, _, rfl, rfl, rfl, ole5 rfl rfl rfl rfl rfl rfl .same .same .same .same .same⟩, trivial⟩) (f22_tail _ rfl s F hB hFl 1 (by omega) _ hscan)
      · have hn1 : nx t = 1 := by
          have h2 : nx t ≤ 1 := by unfold nx; split <;> omega
          have h3 : ¬ nx t = 0 := fun h => hat (by have := hfirst.mp h; show ((F.getD 0 (0, [])).1 : Int) = 0; omega)
          omega
        rw [hn1] at hscan
        conv => whnf
        repeat (first | ((with_reducible first | apply ga | apply gb | apply gc | apply gd | apply ge | apply gf | apply gg | apply gh | apply gi | apply gj); conv => whnf) | (refine ⟨⟨rfl, rfl, nle rfl, nle rfl⟩, ?_⟩; conv => whnf) | fail)
        exact AWP.sub (st' := Sr F 0 lz) (SubS.mk [] rfl ⟨⟨_, rfl, .ptr _ _ _ _ _ _ _ _ _ rfl rfl rfl rfl⟩, ⟨_, rfl, .same⟩, ⟨_, rfl, .same⟩, ⟨_, rfl, .same⟩, ⟨_, rfl, .ptr _ _ _ _ _ _ _ _ _ rfl rfl rfl rfl⟩, ⟨_, rfl, .same⟩, trivial⟩ ⟨.inl ⟨_, _, rfl, rfl, rfl, ole5 rfl rfl rfl rfl rfl rfl .same .same .same .same .same⟩, .inl ⟨_, _, rfl, rfl, rfl, ole5 rfl rfl rfl rfl rfl rfl .same .same .same .same .same⟩, trivial⟩) (f22_tail _ rfl s F hB hFl 0 (by omega) _ hscan)
    · have hFe : F = [] := List.eq_nil_of_length_eq_zero (by omega)
      have hn1 : nx t = 1 := fl_nil (hF.trans hFe)
      rw [hn1] at hscan
      conv => whnf
      repeat (first | ((with_reducible first | apply ga | apply gb | apply gc | apply gd | apply ge | apply gf | apply gg | apply gh | apply gi | apply gj); conv => whnf) | (refine ⟨⟨rfl, rfl, nle rfl, nle rfl⟩, ?_⟩; conv => whnf) | fail)
      exact AWP.sub (st' := Sr F 0 lz) (SubS.mk [] rfl ⟨⟨_, rfl, .ptr _ _ _ _ _ _ _ _ _ rfl rfl rfl rfl⟩, ⟨_, rfl, .same⟩, ⟨_, rfl, .same⟩, ⟨_, rfl, .same⟩, ⟨_, rfl, .ptr _ _ _ _ _ _ _ _ _ rfl rfl rfl rfl⟩, ⟨_, rfl, .same⟩, trivial⟩ ⟨.inl ⟨_, _, rfl, rfl, rfl, ole5 rfl rfl rfl rfl rfl rfl .same .same .same .same .same⟩, .inl ⟨_, _, rfl, rfl, rfl, ole5 rfl rfl rfl rfl rfl rfl .same .same .same .same .same⟩, trivial⟩) (f22_tail _ rfl s F hB hFl 0 (by omega) _ hscan)
theorem f5 (s : List UInt8) (hs : B62 s) : PureCall Tryd.prog 5 [st s] (bb true) := by
  refine PureCall.run tab_ok mixed (by kernel_rfl) Tryd.func5 rfl rfl rfl ?_
  conv => whnf
  repeat (first | ((with_reducible first | apply ga | apply gb | apply gc | apply gd | apply ge | apply gf | apply gg | apply gh | apply gi | apply gj); conv => whnf) | (refine ⟨⟨rfl, rfl, nle rfl, nle rfl⟩, ?_⟩; conv => whnf) | fail)
  refine CallK.flat [] (f21 s hs) ⟨.same, trivial⟩ rfl ?_
  conv => whnf
  repeat (first | ((with_reducible first | apply ga | apply gb | apply gc | apply gd | apply ge | apply gf | apply gg | apply gh | apply gi | apply gj); conv => whnf) | (refine ⟨⟨rfl, rfl, nle rfl, nle rfl⟩, ?_⟩; conv => whnf) | fail)
  refine CallK.flat [] (f22 s hs) ⟨.same, trivial⟩ rfl ?_
  conv => whnf
  repeat (first | ((with_reducible first | apply ga | apply gb | apply gc | apply gd | apply ge | apply gf | apply gg | apply gh | apply gi | apply gj); conv => whnf) | (refine ⟨⟨rfl, rfl, nle rfl, nle rfl⟩, ?_⟩; conv => whnf) | fail)
  repeat (first | ((with_reducible first | apply ga | apply gb | apply gc | apply gd | apply ge | apply gf | apply gg | apply gh | apply gi | apply gj); conv => whnf) | (refine ⟨⟨rfl, rfl, nle rfl, nle rfl⟩, ?_⟩; conv => whnf) | (refine CallK.flat [] f18 trivial rfl ?_; conv => whnf) | (refine ⟨fun _ => ?_, fun h => absurd h (by simp)⟩; conv => whnf) | fail)
  exact done_bool _ _ rfl rfl rfl
end Go.Proofs.YtdoeiccibhabcaaDoor
