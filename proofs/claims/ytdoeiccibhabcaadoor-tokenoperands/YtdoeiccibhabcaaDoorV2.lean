/- Part of the proof: what the functions that the law calls compute (2). -/
import Derived.Test.YtdoeiccibhabcaaDoorV1
namespace Go.Proofs.YtdoeiccibhabcaaDoor
open Go Go.AM
attribute [local irreducible] AWP CallK PureCall SubS HeapCall
structure Arg where
  k : Int
  nm : List UInt8
  v : Int
def Arg.av (a : Arg) : AV := .agg 3 (getL [u8 a.k, st a.nm, i64 a.v])
def az : Arg := ⟨0, [], 0⟩
def opT (x : Arg × Int × Int) : AV := tupV [x.1.av, i64 x.2.1, i64 x.2.2]
/-- An operand. -/
def opnd (s : List UInt8) : Arg × Int × Int :=
  if s == [] || !(letter (s.getD 0 0)) then (if (num s).2 ≠ 0 then (az, 0, (num s).2) else (⟨1, [], (num s).1⟩, 0, 0))
  else if 8 < (nameLen s : Int) then (az, 0, 5)
  else if (nameLen s : Int) = s.length then (⟨2, s.take (nameLen s), 0⟩, 0, 0)
  else if ((s.getD (nameLen s) 0).toNat : Int) = 43 ∨ ((s.getD (nameLen s) 0).toNat : Int) = 45 then
    if [45].isPrefixOf (s.drop (nameLen s + 1)) then (az, nameLen s + 1, 5)
    else if (num (s.drop (nameLen s + 1))).2 ≠ 0 then (az, nameLen s + 1, (num (s.drop (nameLen s + 1))).2)
    else (⟨2, s.take (nameLen s), if ((s.getD (nameLen s) 0).toNat : Int) = 45 then -(num (s.drop (nameLen s + 1))).1 else (num (s.drop (nameLen s + 1))).1⟩, 0, 0)
  else (az, nameLen s, 5)
theorem num_bounds (s : List UInt8) : -65535 ≤ (num s).1 ∧ (num s).1 ≤ 65535 := by
  have key : ∀ v : Option Int, (∀ n, v = some n → 0 ≤ n ∧ n ≤ 65536) → ∀ b, -65535 ≤ (numR b v).1 ∧ (numR b v).1 ≤ 65535 := by
    intro v hv b
    unfold numR
    split
    · simp
    · rename_i n
      have := hv n rfl
      split
      · simp
      · split
        · simp
        · split <;> simp only <;> omega
  refine key _ (fun n hn => ?_) _
  unfold numV at hn
  split at hn
  · exact valN_some (.inl rfl) hn
  · split at hn
    · exact valN_some (.inr rfl) hn
    · cases hn
theorem agg3 {H : Heap} {B : List Nat} {U : List (Nat × Nat)} {f g : Nat → AV} (h0 : VLe H B U (f 0) (g 0)) (h1 : VLe H B U (f 1) (g 1)) (h2 : VLe H B U (f 2) (g 2)) : VLe H B U (.agg 3 f) (.agg 3 g) :=
  .agg _ _ _ fun i hi => match i, hi with
    | 0, _ => h0
    | 1, _ => h1
    | 2, _ => h2
theorem empty_beq {s : List UInt8} : (s == []) = decide (¬ 0 < s.length) := by cases s <;> simp
theorem f19 (s : List UInt8) (hs : B62 s) : PureCall Tryd.prog 19 [st s] (opT (opnd s)) := by
  have hs' := hs
  unfold B62 at hs'
  have hk := tw_le (p := inner) s
  change nameLen s ≤ s.length at hk
  have hr : B62 (s.drop (nameLen s + 1)) := by unfold B62; simp; omega
  have hnb := num_bounds (s.drop (nameLen s + 1))
  refine PureCall.run tab_ok mixed (by kernel_rfl) Tryd.func19 rfl rfl rfl ?_
  conv => whnf
  repeat (first | ((with_reducible first | apply ga | apply gb | apply gc | apply gd | apply ge | apply gf | apply gg | apply gh | apply gi | apply gj); conv => whnf) | (refine ⟨⟨rfl, rfl, nle rfl, nle rfl⟩, ?_⟩; conv => whnf) | fail)
  refine ⟨fun h0 => ?_, fun h0 => ?_⟩ <;> replace h0 := nm h0 <;> (try simp only [Int.toNat_zero] at h0) <;> (try simp only [Int.toNat_one] at h0)
  · conv => whnf
    repeat (first | ((with_reducible first | apply ga | apply gb | apply gc | apply gd | apply ge | apply gf | apply gg | apply gh | apply gi | apply gj); conv => whnf) | (refine ⟨⟨rfl, rfl, nle rfl, nle rfl⟩, ?_⟩; conv => whnf) | fail)
    refine ⟨⟨by omega, by cases s with | nil => exact absurd rfl h0 | cons _ _ => simp⟩, ?_⟩
    conv => whnf
    repeat (first | ((with_reducible first | apply ga | apply gb | apply gc | apply gd | apply ge | apply gf | apply gg | apply gh | apply gi | apply gj); conv => whnf) | (refine ⟨⟨rfl, rfl, nle rfl, nle rfl⟩, ?_⟩; conv => whnf) | fail)
    refine CallK.flat [] (f37 (s.getD 0 0)) ⟨.same, trivial⟩ rfl ?_
    conv => whnf
    repeat (first | ((with_reducible first | apply ga | apply gb | apply gc | apply gd | apply ge | apply gf | apply gg | apply gh | apply gi | apply gj); conv => whnf) | (refine ⟨⟨rfl, rfl, nle rfl, nle rfl⟩, ?_⟩; conv => whnf) | fail)
    refine ⟨fun hl => ?_, fun hl => ?_⟩ <;> replace hl := nm hl <;> (try simp only [Int.toNat_zero] at hl) <;> (try simp only [Int.toNat_one] at hl)
    · have hA : (s == [] || !(letter (s.getD 0 0))) = true := by rw [hl]; simp
      conv => whnf
      repeat (first | ((with_reducible first | apply ga | apply gb | apply gc | apply gd | apply ge | apply gf | apply gg | apply gh | apply gi | apply gj); conv => whnf) | (refine ⟨⟨rfl, rfl, nle rfl, nle rfl⟩, ?_⟩; conv => whnf) | fail)
      refine CallK.flat [] (f14 s hs) ⟨.same, trivial⟩ rfl ?_
      conv => whnf
      repeat (first | ((with_reducible first | apply ga | apply gb | apply gc | apply gd | apply ge | apply gf | apply gg | apply gh | apply gi | apply gj); conv => whnf) | (refine ⟨⟨rfl, rfl, nle rfl, nle rfl⟩, ?_⟩; conv => whnf) | fail)
      refine ⟨fun he => ?_, fun he => ?_⟩ <;> replace he := nm he <;> (try simp only [Int.toNat_zero] at he) <;> (try simp only [Int.toNat_one] at he)
      · conv => whnf
        repeat (first | ((with_reducible first | apply ga | apply gb | apply gc | apply gd | apply ge | apply gf | apply gg | apply gh | apply gi | apply gj); conv => whnf) | (refine ⟨⟨rfl, rfl, nle rfl, nle rfl⟩, ?_⟩; conv => whnf) | fail)
        have hO : opnd s = (az, 0, (num s).2) := by rw [opnd, if_pos hA, if_pos he]
        rw [hO]
        exact done_tup [Arg.av az, i64 0, i64 ((num s).2)] [] rfl ⟨agg3 .same .same .same, .same, .same, trivial⟩
      · conv => whnf
        repeat (first | ((with_reducible first | apply ga | apply gb | apply gc | apply gd | apply ge | apply gf | apply gg | apply gh | apply gi | apply gj); conv => whnf) | (refine ⟨⟨rfl, rfl, nle rfl, nle rfl⟩, ?_⟩; conv => whnf) | fail)
        have hO : opnd s = (⟨1, [], (num s).1⟩, 0, 0) := by rw [opnd, if_pos hA, if_neg (fun h => h he)]
        rw [hO]
        exact done_tup [Arg.av ⟨1, [], (num s).1⟩, i64 0, i64 0] [] rfl ⟨agg3 .same .same .same, .same, .same, trivial⟩
    · have hA : ¬ (s == [] || !(letter (s.getD 0 0))) = true := by rw [hl]; simpa using h0
      conv => whnf
      repeat (first | ((with_reducible first | apply ga | apply gb | apply gc | apply gd | apply ge | apply gf | apply gg | apply gh | apply gi | apply gj); conv => whnf) | (refine ⟨⟨rfl, rfl, nle rfl, nle rfl⟩, ?_⟩; conv => whnf) | fail)
      refine CallK.flat [] (f38 s hs) ⟨.same, trivial⟩ rfl ?_
      conv => whnf
      repeat (first | ((with_reducible first | apply ga | apply gb | apply gc | apply gd | apply ge | apply gf | apply gg | apply gh | apply gi | apply gj); conv => whnf) | (refine ⟨⟨rfl, rfl, nle rfl, nle rfl⟩, ?_⟩; conv => whnf) | fail)
      refine ⟨fun h8 => ?_, fun h8 => ?_⟩ <;> replace h8 := nm h8 <;> (try simp only [Int.toNat_zero] at h8) <;> (try simp only [Int.toNat_one] at h8)
      · conv => whnf
        repeat (first | ((with_reducible first | apply ga | apply gb | apply gc | apply gd | apply ge | apply gf | apply gg | apply gh | apply gi | apply gj); conv => whnf) | (refine ⟨⟨rfl, rfl, nle rfl, nle rfl⟩, ?_⟩; conv => whnf) | fail)
        have hO : opnd s = (az, 0, 5) := by rw [opnd, if_neg hA, if_pos h8]
        rw [hO]
        exact done_tup [Arg.av az, i64 0, i64 5] [] rfl ⟨agg3 .same .same .same, .same, .same, trivial⟩
      · have h8' := Int.not_lt.mpr h8
        conv => whnf
        repeat (first | ((with_reducible first | apply ga | apply gb | apply gc | apply gd | apply ge | apply gf | apply gg | apply gh | apply gi | apply gj); conv => whnf) | (refine ⟨⟨rfl, rfl, nle rfl, nle rfl⟩, ?_⟩; conv => whnf) | fail)
        refine ⟨⟨by omega, by omega⟩, ?_⟩
        conv => whnf
        repeat (first | ((with_reducible first | apply ga | apply gb | apply gc | apply gd | apply ge | apply gf | apply gg | apply gh | apply gi | apply gj); conv => whnf) | (refine ⟨⟨rfl, rfl, nle rfl, nle rfl⟩, ?_⟩; conv => whnf) | fail)
        rw [show ((nameLen s : Int)).toNat = nameLen s from Int.toNat_natCast _]
        refine CallK.flat [] (f41 (s.take (nameLen s)) (by simp; omega)) ⟨.same, trivial⟩ rfl ?_
        conv => whnf
        repeat (first | ((with_reducible first | apply ga | apply gb | apply gc | apply gd | apply ge | apply gf | apply gg | apply gh | apply gi | apply gj); conv => whnf) | (refine ⟨⟨rfl, rfl, nle rfl, nle rfl⟩, ?_⟩; conv => whnf) | fail)
        refine ⟨fun he => ?_, fun he => ?_⟩ <;> replace he := nm he <;> (try simp only [Int.toNat_zero] at he) <;> (try simp only [Int.toNat_one] at he)
        · conv => whnf
          repeat (first | ((with_reducible first | apply ga | apply gb | apply gc | apply gd | apply ge | apply gf | apply gg | apply gh | apply gi | apply gj); conv => whnf) | (refine ⟨⟨rfl, rfl, nle rfl, nle rfl⟩, ?_⟩; conv => whnf) | fail)
          have hO : opnd s = (⟨2, s.take (nameLen s), 0⟩, 0, 0) := by rw [opnd, if_neg hA, if_neg h8', if_pos he]
          rw [hO]
          exact done_tup [Arg.av ⟨2, s.take (nameLen s), 0⟩, i64 0, i64 0] [] rfl ⟨agg3 .same .same .same, .same, .same, trivial⟩
        · have hlt : nameLen s < s.length := by omega
          conv => whnf
          repeat (first | ((with_reducible first | apply ga | apply gb | apply gc | apply gd | apply ge | apply gf | apply gg | apply gh | apply gi | apply gj); conv => whnf) | (refine ⟨⟨rfl, rfl, nle rfl, nle rfl⟩, ?_⟩; conv => whnf) | fail)
          refine ⟨⟨by omega, by omega⟩, ?_⟩
          conv => whnf
          repeat (first | ((with_reducible first | apply ga | apply gb | apply gc | apply gd | apply ge | apply gf | apply gg | apply gh | apply gi | apply gj); conv => whnf) | (refine ⟨⟨rfl, rfl, nle rfl, nle rfl⟩, ?_⟩; conv => whnf) | fail)
          rw [show ((nameLen s : Int)).toNat = nameLen s from Int.toNat_natCast _]
          refine ⟨fun h43 => ?_, fun h43 => ?_⟩ <;> replace h43 := nm h43 <;> (try simp only [Int.toNat_zero] at h43) <;> (try simp only [Int.toNat_one] at h43)
          · conv => whnf
            repeat (first | ((with_reducible first | apply ga | apply gb | apply gc | apply gd | apply ge | apply gf | apply gg | apply gh | apply gi | apply gj); conv => whnf) | (refine ⟨⟨rfl, rfl, nle rfl, nle rfl⟩, ?_⟩; conv => whnf) | fail)
            have hS : ((s.getD (nameLen s) 0).toNat : Int) = 43 ∨ ((s.getD (nameLen s) 0).toNat : Int) = 45 := .inl h43
            have hd : s.drop ((nameLen s : Int) + 1).toNat = s.drop (nameLen s + 1) := by congr 1
            refine ⟨⟨by unfold inI64; omega⟩, ?_⟩
            conv => whnf
            repeat (first | ((with_reducible first | apply ga | apply gb | apply gc | apply gd | apply ge | apply gf | apply gg | apply gh | apply gi | apply gj); conv => whnf) | (refine ⟨⟨rfl, rfl, nle rfl, nle rfl⟩, ?_⟩; conv => whnf) | fail)
            refine ⟨⟨by omega, by omega⟩, ?_⟩
            conv => whnf
            repeat (first | ((with_reducible first | apply ga | apply gb | apply gc | apply gd | apply ge | apply gf | apply gg | apply gh | apply gi | apply gj); conv => whnf) | (refine ⟨⟨rfl, rfl, nle rfl, nle rfl⟩, ?_⟩; conv => whnf) | fail)
            rw [hd]
            refine CallK.flat [] (f35 (s.drop (nameLen s + 1)) [45]) ⟨.same, .same, trivial⟩ rfl ?_
            conv => whnf
            repeat (first | ((with_reducible first | apply ga | apply gb | apply gc | apply gd | apply ge | apply gf | apply gg | apply gh | apply gi | apply gj); conv => whnf) | (refine ⟨⟨rfl, rfl, nle rfl, nle rfl⟩, ?_⟩; conv => whnf) | fail)
            refine ⟨fun hm => ?_, fun hm => ?_⟩ <;> replace hm := nm hm <;> (try simp only [Int.toNat_zero] at hm) <;> (try simp only [Int.toNat_one] at hm)
            · conv => whnf
              repeat (first | ((with_reducible first | apply ga | apply gb | apply gc | apply gd | apply ge | apply gf | apply gg | apply gh | apply gi | apply gj); conv => whnf) | (refine ⟨⟨rfl, rfl, nle rfl, nle rfl⟩, ?_⟩; conv => whnf) | fail)
              refine ⟨⟨by unfold inI64; omega⟩, ?_⟩
              conv => whnf
              repeat (first | ((with_reducible first | apply ga | apply gb | apply gc | apply gd | apply ge | apply gf | apply gg | apply gh | apply gi | apply gj); conv => whnf) | (refine ⟨⟨rfl, rfl, nle rfl, nle rfl⟩, ?_⟩; conv => whnf) | fail)
              have hO : opnd s = (az, ((nameLen s : Int) + 1), 5) := by rw [opnd, if_neg hA, if_neg h8', if_neg he, if_pos hS, if_pos hm]
              rw [hO]
              exact done_tup [Arg.av az, i64 (((nameLen s : Int) + 1)), i64 5] [] rfl ⟨agg3 .same .same .same, .same, .same, trivial⟩
            · have hm' : ¬ [45].isPrefixOf (s.drop (nameLen s + 1)) = true := by rw [hm]; simp
              conv => whnf
              repeat (first | ((with_reducible first | apply ga | apply gb | apply gc | apply gd | apply ge | apply gf | apply gg | apply gh | apply gi | apply gj); conv => whnf) | (refine ⟨⟨rfl, rfl, nle rfl, nle rfl⟩, ?_⟩; conv => whnf) | fail)
              refine ⟨⟨by unfold inI64; omega⟩, ?_⟩
              conv => whnf
              repeat (first | ((with_reducible first | apply ga | apply gb | apply gc | apply gd | apply ge | apply gf | apply gg | apply gh | apply gi | apply gj); conv => whnf) | (refine ⟨⟨rfl, rfl, nle rfl, nle rfl⟩, ?_⟩; conv => whnf) | fail)
              refine ⟨⟨by omega, by omega⟩, ?_⟩
              conv => whnf
              repeat (first | ((with_reducible first | apply ga | apply gb | apply gc | apply gd | apply ge | apply gf | apply gg | apply gh | apply gi | apply gj); conv => whnf) | (refine ⟨⟨rfl, rfl, nle rfl, nle rfl⟩, ?_⟩; conv => whnf) | fail)
              rw [hd]
              refine CallK.flat [] (f14 (s.drop (nameLen s + 1)) hr) ⟨.same, trivial⟩ rfl ?_
              conv => whnf
              repeat (first | ((with_reducible first | apply ga | apply gb | apply gc | apply gd | apply ge | apply gf | apply gg | apply gh | apply gi | apply gj); conv => whnf) | (refine ⟨⟨rfl, rfl, nle rfl, nle rfl⟩, ?_⟩; conv => whnf) | fail)
              refine ⟨fun hn => ?_, fun hn => ?_⟩ <;> replace hn := nm hn <;> (try simp only [Int.toNat_zero] at hn) <;> (try simp only [Int.toNat_one] at hn)
              · conv => whnf
                repeat (first | ((with_reducible first | apply ga | apply gb | apply gc | apply gd | apply ge | apply gf | apply gg | apply gh | apply gi | apply gj); conv => whnf) | (refine ⟨⟨rfl, rfl, nle rfl, nle rfl⟩, ?_⟩; conv => whnf) | fail)
                refine ⟨⟨by unfold inI64; omega⟩, ?_⟩
                conv => whnf
                repeat (first | ((with_reducible first | apply ga | apply gb | apply gc | apply gd | apply ge | apply gf | apply gg | apply gh | apply gi | apply gj); conv => whnf) | (refine ⟨⟨rfl, rfl, nle rfl, nle rfl⟩, ?_⟩; conv => whnf) | fail)
                have hO : opnd s = (az, ((nameLen s : Int) + 1), (num (s.drop (nameLen s + 1))).2) := by rw [opnd, if_neg hA, if_neg h8', if_neg he, if_pos hS, if_neg hm', if_pos hn]
                rw [hO]
                exact done_tup [Arg.av az, i64 (((nameLen s : Int) + 1)), i64 ((num (s.drop (nameLen s + 1))).2)] [] rfl ⟨agg3 .same .same .same, .same, .same, trivial⟩
              · conv => whnf
                repeat (first | ((with_reducible first | apply ga | apply gb | apply gc | apply gd | apply ge | apply gf | apply gg | apply gh | apply gi | apply gj); conv => whnf) | (refine ⟨⟨rfl, rfl, nle rfl, nle rfl⟩, ?_⟩; conv => whnf) | fail)
                refine ⟨⟨by unfold inI64; omega⟩, ?_⟩
                conv => whnf
                repeat (first | ((with_reducible first | apply ga | apply gb | apply gc | apply gd | apply ge | apply gf | apply gg | apply gh | apply gi | apply gj); conv => whnf) | (refine ⟨⟨rfl, rfl, nle rfl, nle rfl⟩, ?_⟩; conv => whnf) | fail)
                have hO : opnd s = (⟨2, s.take (nameLen s), (num (s.drop (nameLen s + 1))).1⟩, 0, 0) := by rw [opnd, if_neg hA, if_neg h8', if_neg he, if_pos hS, if_neg hm', if_neg (fun h => h hn), if_neg (by omega)]
                rw [hO]
                exact done_tup [Arg.av ⟨2, s.take (nameLen s), (num (s.drop (nameLen s + 1))).1⟩, i64 0, i64 0] [] rfl ⟨agg3 .same .same (.int (by dsimp only; omega)), .same, .same, trivial⟩
          · conv => whnf
            repeat (first | ((with_reducible first | apply ga | apply gb | apply gc | apply gd | apply ge | apply gf | apply gg | apply gh | apply gi | apply gj); conv => whnf) | (refine ⟨⟨rfl, rfl, nle rfl, nle rfl⟩, ?_⟩; conv => whnf) | fail)
            refine ⟨fun h45 => ?_, fun h45 => ?_⟩ <;> replace h45 := nm h45 <;> (try simp only [Int.toNat_zero] at h45) <;> (try simp only [Int.toNat_one] at h45)
            · conv => whnf
              repeat (first | ((with_reducible first | apply ga | apply gb | apply gc | apply gd | apply ge | apply gf | apply gg | apply gh | apply gi | apply gj); conv => whnf) | (refine ⟨⟨rfl, rfl, nle rfl, nle rfl⟩, ?_⟩; conv => whnf) | fail)
              have hS : ((s.getD (nameLen s) 0).toNat : Int) = 43 ∨ ((s.getD (nameLen s) 0).toNat : Int) = 45 := .inr h45
              have hd : s.drop ((nameLen s : Int) + 1).toNat = s.drop (nameLen s + 1) := by congr 1
              refine ⟨⟨by unfold inI64; omega⟩, ?_⟩
              conv => whnf
              repeat (first | ((with_reducible first | apply ga | apply gb | apply gc | apply gd | apply ge | apply gf | apply gg | apply gh | apply gi | apply gj); conv => whnf) | (refine ⟨⟨rfl, rfl, nle rfl, nle rfl⟩, ?_⟩; conv => whnf) | fail)
              refine ⟨⟨by omega, by omega⟩, ?_⟩
              conv => whnf
              repeat (first | ((with_reducible first | apply ga | apply gb | apply gc | apply gd | apply ge | apply gf | apply gg | apply gh | apply gi | apply gj); conv => whnf) | (refine ⟨⟨rfl, rfl, nle rfl, nle rfl⟩, ?_⟩; conv => whnf) | fail)
              rw [hd]
              refine CallK.flat [] (f35 (s.drop (nameLen s + 1)) [45]) ⟨.same, .same, trivial⟩ rfl ?_
              conv => whnf
              repeat (first | ((with_reducible first | apply ga | apply gb | apply gc | apply gd | apply ge | apply gf | apply gg | apply gh | apply gi | apply gj); conv => whnf) | (refine ⟨⟨rfl, rfl, nle rfl, nle rfl⟩, ?_⟩; conv => whnf) | fail)
              refine ⟨fun hm => ?_, fun hm => ?_⟩ <;> replace hm := nm hm <;> (try simp only [Int.toNat_zero] at hm) <;> (try simp only [Int.toNat_one] at hm)
              · conv => whnf
                repeat (first | ((with_reducible first | apply ga | apply gb | apply gc | apply gd | apply ge | apply gf | apply gg | apply gh | apply gi | apply gj); conv => whnf) | (refine ⟨⟨rfl, rfl, nle rfl, nle rfl⟩, ?_⟩; conv => whnf) | fail)
                refine ⟨⟨by unfold inI64; omega⟩, ?_⟩
                conv => whnf
                repeat (first | ((with_reducible first | apply ga | apply gb | apply gc | apply gd | apply ge | apply gf | apply gg | apply gh | apply gi | apply gj); conv => whnf) | (refine ⟨⟨rfl, rfl, nle rfl, nle rfl⟩, ?_⟩; conv => whnf) | fail)
                have hO : opnd s = (az, ((nameLen s : Int) + 1), 5) := by rw [opnd, if_neg hA, if_neg h8', if_neg he, if_pos hS, if_pos hm]
                rw [hO]
                exact done_tup [Arg.av az, i64 (((nameLen s : Int) + 1)), i64 5] [] rfl ⟨agg3 .same .same .same, .same, .same, trivial⟩
              · have hm' : ¬ [45].isPrefixOf (s.drop (nameLen s + 1)) = true := by rw [hm]; simp
                conv => whnf
                repeat (first | ((with_reducible first | apply ga | apply gb | apply gc | apply gd | apply ge | apply gf | apply gg | apply gh | apply gi | apply gj); conv => whnf) | (refine ⟨⟨rfl, rfl, nle rfl, nle rfl⟩, ?_⟩; conv => whnf) | fail)
                refine ⟨⟨by unfold inI64; omega⟩, ?_⟩
                conv => whnf
                repeat (first | ((with_reducible first | apply ga | apply gb | apply gc | apply gd | apply ge | apply gf | apply gg | apply gh | apply gi | apply gj); conv => whnf) | (refine ⟨⟨rfl, rfl, nle rfl, nle rfl⟩, ?_⟩; conv => whnf) | fail)
                refine ⟨⟨by omega, by omega⟩, ?_⟩
                conv => whnf
                repeat (first | ((with_reducible first | apply ga | apply gb | apply gc | apply gd | apply ge | apply gf | apply gg | apply gh | apply gi | apply gj); conv => whnf) | (refine ⟨⟨rfl, rfl, nle rfl, nle rfl⟩, ?_⟩; conv => whnf) | fail)
                rw [hd]
                refine CallK.flat [] (f14 (s.drop (nameLen s + 1)) hr) ⟨.same, trivial⟩ rfl ?_
                conv => whnf
                repeat (first | ((with_reducible first | apply ga | apply gb | apply gc | apply gd | apply ge | apply gf | apply gg | apply gh | apply gi | apply gj); conv => whnf) | (refine ⟨⟨rfl, rfl, nle rfl, nle rfl⟩, ?_⟩; conv => whnf) | fail)
                refine ⟨fun hn => ?_, fun hn => ?_⟩ <;> replace hn := nm hn <;> (try simp only [Int.toNat_zero] at hn) <;> (try simp only [Int.toNat_one] at hn)
                · conv => whnf
                  repeat (first | ((with_reducible first | apply ga | apply gb | apply gc | apply gd | apply ge | apply gf | apply gg | apply gh | apply gi | apply gj); conv => whnf) | (refine ⟨⟨rfl, rfl, nle rfl, nle rfl⟩, ?_⟩; conv => whnf) | fail)
                  refine ⟨⟨by unfold inI64; omega⟩, ?_⟩
                  conv => whnf
                  repeat (first | ((with_reducible first | apply ga | apply gb | apply gc | apply gd | apply ge | apply gf | apply gg | apply gh | apply gi | apply gj); conv => whnf) | (refine ⟨⟨rfl, rfl, nle rfl, nle rfl⟩, ?_⟩; conv => whnf) | fail)
                  have hO : opnd s = (az, ((nameLen s : Int) + 1), (num (s.drop (nameLen s + 1))).2) := by rw [opnd, if_neg hA, if_neg h8', if_neg he, if_pos hS, if_neg hm', if_pos hn]
                  rw [hO]
                  exact done_tup [Arg.av az, i64 (((nameLen s : Int) + 1)), i64 ((num (s.drop (nameLen s + 1))).2)] [] rfl ⟨agg3 .same .same .same, .same, .same, trivial⟩
                · conv => whnf
                  repeat (first | ((with_reducible first | apply ga | apply gb | apply gc | apply gd | apply ge | apply gf | apply gg | apply gh | apply gi | apply gj); conv => whnf) | (refine ⟨⟨rfl, rfl, nle rfl, nle rfl⟩, ?_⟩; conv => whnf) | fail)
                  refine ⟨⟨by unfold inI64; omega⟩, ?_⟩
                  conv => whnf
                  repeat (first | ((with_reducible first | apply ga | apply gb | apply gc | apply gd | apply ge | apply gf | apply gg | apply gh | apply gi | apply gj); conv => whnf) | (refine ⟨⟨rfl, rfl, nle rfl, nle rfl⟩, ?_⟩; conv => whnf) | fail)
                  have hO : opnd s = (⟨2, s.take (nameLen s), -(num (s.drop (nameLen s + 1))).1⟩, 0, 0) := by rw [opnd, if_neg hA, if_neg h8', if_neg he, if_pos hS, if_neg hm', if_neg (fun h => h hn), if_pos h45]
                  rw [hO]
                  exact done_tup [Arg.av ⟨2, s.take (nameLen s), -(num (s.drop (nameLen s + 1))).1⟩, i64 0, i64 0] [] rfl ⟨agg3 .same .same (.int (by dsimp only; omega)), .same, .same, trivial⟩
            · conv => whnf
              repeat (first | ((with_reducible first | apply ga | apply gb | apply gc | apply gd | apply ge | apply gf | apply gg | apply gh | apply gi | apply gj); conv => whnf) | (refine ⟨⟨rfl, rfl, nle rfl, nle rfl⟩, ?_⟩; conv => whnf) | fail)
              have hO : opnd s = (az, (nameLen s : Int), 5) := by rw [opnd, if_neg hA, if_neg h8', if_neg he, if_neg (by omega)]
              rw [hO]
              exact done_tup [Arg.av az, i64 ((nameLen s : Int)), i64 5] [] rfl ⟨agg3 .same .same .same, .same, .same, trivial⟩
  · have hA : (s == [] || !(letter (s.getD 0 0))) = true := by rw [h0]; rfl
    conv => whnf
    repeat (first | ((with_reducible first | apply ga | apply gb | apply gc | apply gd | apply ge | apply gf | apply gg | apply gh | apply gi | apply gj); conv => whnf) | (refine ⟨⟨rfl, rfl, nle rfl, nle rfl⟩, ?_⟩; conv => whnf) | fail)
    refine CallK.flat [] (f14 s hs) ⟨.same, trivial⟩ rfl ?_
    conv => whnf
    repeat (first | ((with_reducible first | apply ga | apply gb | apply gc | apply gd | apply ge | apply gf | apply gg | apply gh | apply gi | apply gj); conv => whnf) | (refine ⟨⟨rfl, rfl, nle rfl, nle rfl⟩, ?_⟩; conv => whnf) | fail)
    refine ⟨fun he => ?_, fun he => ?_⟩ <;> replace he := nm he <;> (try simp only [Int.toNat_zero] at he) <;> (try simp only [Int.toNat_one] at he)
    · conv => whnf
      repeat (first | ((with_reducible first | apply ga | apply gb | apply gc | apply gd | apply ge | apply gf | apply gg | apply gh | apply gi | apply gj); conv => whnf) | (refine ⟨⟨rfl, rfl, nle rfl, nle rfl⟩, ?_⟩; conv => whnf) | fail)
      have hO : opnd s = (az, 0, (num s).2) := by rw [opnd, if_pos hA, if_pos he]
      rw [hO]
      exact done_tup [Arg.av az, i64 0, i64 ((num s).2)] [] rfl ⟨agg3 .same .same .same, .same, .same, trivial⟩
    · conv => whnf
      repeat (first | ((with_reducible first | apply ga | apply gb | apply gc | apply gd | apply ge | apply gf | apply gg | apply gh | apply gi | apply gj); conv => whnf) | (refine ⟨⟨rfl, rfl, nle rfl, nle rfl⟩, ?_⟩; conv => whnf) | fail)
      have hO : opnd s = (⟨1, [], (num s).1⟩, 0, 0) := by rw [opnd, if_pos hA, if_neg (fun h => h he)]
      rw [hO]
      exact done_tup [Arg.av ⟨1, [], (num s).1⟩, i64 0, i64 0] [] rfl ⟨agg3 .same .same .same, .same, .same, trivial⟩
end Go.Proofs.YtdoeiccibhabcaaDoor

namespace Go.Proofs.YtdoeiccibhabcaaDoor
open Go Go.AM
attribute [local irreducible] AWP CallK PureCall SubS HeapCall
theorem ole3 {H : Heap} {B : List Nat} {U : List (Nat × Nat)} {o o' : AO} (hE : o'.E = o.E) (hg : o'.gen = o.gen) (h3 : o.sz = 3) (hs : o'.sz = 3) (hn : o.n = 1) (hn' : o'.n = 1) (h0 : VLe H B U (o.f 0 0) (o'.f 0 0)) (h1 : VLe H B U (o.f 0 1) (o'.f 0 1)) (h2 : VLe H B U (o.f 0 2) (o'.f 0 2)) : OLe H B U o o' := by
  refine ⟨hE, hg, by omega, by omega, fun i j hi hj => ?_⟩
  obtain rfl : i = 0 := by omega
  rcases (by omega : j = 0 ∨ j = 1 ∨ j = 2) with rfl | rfl | rfl
  · exact h0
  · exact h1
  · exact h2
def argO (a : Arg) : AO := ⟨28, 0, 3, 1, fun _ j => getL [u8 a.k, st a.nm, i64 a.v] j⟩
set_option maxHeartbeats 4000000 in
theorem f20 (s : List UInt8) (hs : B62 s) : PureCall Tryd.prog 20 [st s] (opT (opnd s)) := by
  have hs' := hs
  unfold B62 at hs'
  have hk := tw_le (p := inner) s
  change nameLen s ≤ s.length at hk
  have hr : B62 (s.drop (nameLen s + 1)) := by unfold B62; simp; omega
  have hnb := num_bounds (s.drop (nameLen s + 1))
  refine PureCall.run tab_ok mixed (by kernel_rfl) Tryd.func20 rfl rfl rfl ?_
  conv => whnf
  repeat (first | ((with_reducible first | apply ga | apply gb | apply gc | apply gd | apply ge | apply gf | apply gg | apply gh | apply gi | apply gj); conv => whnf) | (refine ⟨⟨rfl, rfl, nle rfl, nle rfl⟩, ?_⟩; conv => whnf) | fail)
  refine ⟨fun h0 => ?_, fun h0 => ?_⟩ <;> replace h0 := nm h0 <;> (try simp only [Int.toNat_zero] at h0) <;> (try simp only [Int.toNat_one] at h0)
  · conv => whnf
    repeat (first | ((with_reducible first | apply ga | apply gb | apply gc | apply gd | apply ge | apply gf | apply gg | apply gh | apply gi | apply gj); conv => whnf) | (refine ⟨⟨rfl, rfl, nle rfl, nle rfl⟩, ?_⟩; conv => whnf) | fail)
    refine ⟨⟨by omega, by cases s with | nil => exact absurd rfl h0 | cons _ _ => simp⟩, ?_⟩
    conv => whnf
    repeat (first | ((with_reducible first | apply ga | apply gb | apply gc | apply gd | apply ge | apply gf | apply gg | apply gh | apply gi | apply gj); conv => whnf) | (refine ⟨⟨rfl, rfl, nle rfl, nle rfl⟩, ?_⟩; conv => whnf) | fail)
    refine CallK.flat [] (f39 (s.getD 0 0)) ⟨.same, trivial⟩ rfl ?_
    conv => whnf
    repeat (first | ((with_reducible first | apply ga | apply gb | apply gc | apply gd | apply ge | apply gf | apply gg | apply gh | apply gi | apply gj); conv => whnf) | (refine ⟨⟨rfl, rfl, nle rfl, nle rfl⟩, ?_⟩; conv => whnf) | fail)
    refine ⟨fun hl => ?_, fun hl => ?_⟩ <;> replace hl := nm hl <;> (try simp only [Int.toNat_zero] at hl) <;> (try simp only [Int.toNat_one] at hl)
    · have hA : (s == [] || !(letter (s.getD 0 0))) = true := by rw [hl]; simp
      conv => whnf
      repeat (first | ((with_reducible first | apply ga | apply gb | apply gc | apply gd | apply ge | apply gf | apply gg | apply gh | apply gi | apply gj); conv => whnf) | (refine ⟨⟨rfl, rfl, nle rfl, nle rfl⟩, ?_⟩; conv => whnf) | fail)
      refine CallK.flat [] (f15 s hs) ⟨.same, trivial⟩ rfl ?_
      conv => whnf
      repeat (first | ((with_reducible first | apply ga | apply gb | apply gc | apply gd | apply ge | apply gf | apply gg | apply gh | apply gi | apply gj); conv => whnf) | (refine ⟨⟨rfl, rfl, nle rfl, nle rfl⟩, ?_⟩; conv => whnf) | fail)
      refine ⟨fun he => ?_, fun he => ?_⟩ <;> replace he := nm he <;> (try simp only [Int.toNat_zero] at he) <;> (try simp only [Int.toNat_one] at he)
      · conv => whnf
        repeat (first | ((with_reducible first | apply ga | apply gb | apply gc | apply gd | apply ge | apply gf | apply gg | apply gh | apply gi | apply gj); conv => whnf) | (refine ⟨⟨rfl, rfl, nle rfl, nle rfl⟩, ?_⟩; conv => whnf) | fail)
        have hO : opnd s = (az, 0, (num s).2) := by rw [opnd, if_pos hA, if_pos he]
        rw [hO]
        exact done_tup [Arg.av az, i64 0, i64 ((num s).2)] [] rfl ⟨agg3 .same .same .same, .same, .same, trivial⟩
      · conv => whnf
        repeat (first | ((with_reducible first | apply ga | apply gb | apply gc | apply gd | apply ge | apply gf | apply gg | apply gh | apply gi | apply gj); conv => whnf) | (refine ⟨⟨rfl, rfl, nle rfl, nle rfl⟩, ?_⟩; conv => whnf) | fail)
        have hO : opnd s = (⟨1, [], (num s).1⟩, 0, 0) := by rw [opnd, if_pos hA, if_neg (fun h => h he)]
        rw [hO]
        exact done_tup [Arg.av ⟨1, [], (num s).1⟩, i64 0, i64 0] [] rfl ⟨agg3 .same .same .same, .same, .same, trivial⟩
    · have hA : ¬ (s == [] || !(letter (s.getD 0 0))) = true := by rw [hl]; simpa using h0
      conv => whnf
      repeat (first | ((with_reducible first | apply ga | apply gb | apply gc | apply gd | apply ge | apply gf | apply gg | apply gh | apply gi | apply gj); conv => whnf) | (refine ⟨⟨rfl, rfl, nle rfl, nle rfl⟩, ?_⟩; conv => whnf) | fail)
      refine ex_loop tab_ok mixed (fun i => i ≤ nameLen s) (fun i : Nat => mkSt 102 [(0, st s), (2, .ptr 2 0 3 0 0), (3, i64 0), (4, i64 0), (7, i64 i)] [(2, argO az)]) (fun i => s.length - i) 0 (Nat.zero_le _) (SubS.mk [] rfl ⟨⟨_, rfl, .same⟩, ⟨_, rfl, .ptr _ _ _ _ _ _ _ _ _ rfl rfl rfl rfl⟩, ⟨_, rfl, .same⟩, ⟨_, rfl, .same⟩, ⟨_, rfl, .same⟩, trivial⟩ ⟨.inl ⟨_, _, rfl, rfl, rfl, ole3 rfl rfl rfl rfl rfl rfl .same .same .same⟩, trivial⟩) fun i hi => ?_
      unfold nameLen at hi
      conv => whnf
      repeat (first | ((with_reducible first | apply ga | apply gb | apply gc | apply gd | apply ge | apply gf | apply gg | apply gh | apply gi | apply gj); conv => whnf) | (refine ⟨⟨rfl, rfl, nle rfl, nle rfl⟩, ?_⟩; conv => whnf) | fail)
      refine ⟨fun hc => ?_, fun hc => ?_⟩ <;> replace hc := nm hc <;> (try simp only [Int.toNat_zero] at hc) <;> (try simp only [Int.toNat_one] at hc)
      · conv => whnf
        repeat (first | ((with_reducible first | apply ga | apply gb | apply gc | apply gd | apply ge | apply gf | apply gg | apply gh | apply gi | apply gj); conv => whnf) | (refine ⟨⟨rfl, rfl, nle rfl, nle rfl⟩, ?_⟩; conv => whnf) | fail)
        refine ⟨⟨by omega, by omega⟩, ?_⟩
        conv => whnf
        repeat (first | ((with_reducible first | apply ga | apply gb | apply gc | apply gd | apply ge | apply gf | apply gg | apply gh | apply gi | apply gj); conv => whnf) | (refine ⟨⟨rfl, rfl, nle rfl, nle rfl⟩, ?_⟩; conv => whnf) | fail)
        rw [show ((i : Int)).toNat = i from Int.toNat_natCast _]
        refine CallK.flat [] (f40 (s.getD i 0)) ⟨.same, trivial⟩ rfl ?_
        conv => whnf
        repeat (first | ((with_reducible first | apply ga | apply gb | apply gc | apply gd | apply ge | apply gf | apply gg | apply gh | apply gi | apply gj); conv => whnf) | (refine ⟨⟨rfl, rfl, nle rfl, nle rfl⟩, ?_⟩; conv => whnf) | fail)
        refine ⟨fun hb => ?_, fun hb => ?_⟩ <;> replace hb := nm hb <;> (try simp only [Int.toNat_zero] at hb) <;> (try simp only [Int.toNat_one] at hb)
        · conv => whnf
          repeat (first | ((with_reducible first | apply ga | apply gb | apply gc | apply gd | apply ge | apply gf | apply gg | apply gh | apply gi | apply gj); conv => whnf) | (refine ⟨⟨rfl, rfl, nle rfl, nle rfl⟩, ?_⟩; conv => whnf) | fail)
          have hlt : i < (s.takeWhile inner).length := by
            rcases Nat.lt_or_ge i (s.takeWhile inner).length with h | h
            · exact h
            · have he : i = (s.takeWhile inner).length := by omega
              have := tw_end (p := inner) (s := s) (by omega)
              rw [← he, hb] at this; cases this
          refine ⟨⟨by unfold inI64; omega⟩, ?_⟩
          conv => whnf
          repeat (first | ((with_reducible first | apply ga | apply gb | apply gc | apply gd | apply ge | apply gf | apply gg | apply gh | apply gi | apply gj); conv => whnf) | (refine ⟨⟨rfl, rfl, nle rfl, nle rfl⟩, ?_⟩; conv => whnf) | fail)
          exact ⟨i + 1, hlt, SubS.mk [] rfl ⟨⟨_, rfl, .same⟩, ⟨_, rfl, .ptr _ _ _ _ _ _ _ _ _ rfl rfl rfl rfl⟩, ⟨_, rfl, .same⟩, ⟨_, rfl, .same⟩, ⟨_, rfl, .same⟩, trivial⟩ ⟨.inl ⟨_, _, rfl, rfl, rfl, ole3 rfl rfl rfl rfl rfl rfl .same .same .same⟩, trivial⟩, by omega⟩
        · have : ¬ i < (s.takeWhile inner).length := fun h => by rw [(tw_lt h).2] at hb; cases hb
          obtain rfl : i = nameLen s := by unfold nameLen; omega
          clear hi hb this hc
          conv => whnf
          repeat (first | ((with_reducible first | apply ga | apply gb | apply gc | apply gd | apply ge | apply gf | apply gg | apply gh | apply gi | apply gj); conv => whnf) | (refine ⟨⟨rfl, rfl, nle rfl, nle rfl⟩, ?_⟩; conv => whnf) | fail)
          refine ⟨fun h8 => ?_, fun h8 => ?_⟩ <;> replace h8 := nm h8 <;> (try simp only [Int.toNat_zero] at h8) <;> (try simp only [Int.toNat_one] at h8)
          · conv => whnf
            repeat (first | ((with_reducible first | apply ga | apply gb | apply gc | apply gd | apply ge | apply gf | apply gg | apply gh | apply gi | apply gj); conv => whnf) | (refine ⟨⟨rfl, rfl, nle rfl, nle rfl⟩, ?_⟩; conv => whnf) | fail)
            have hO : opnd s = (az, 0, 5) := by rw [opnd, if_neg hA, if_pos h8]
            rw [hO]
            exact done_tup [Arg.av az, i64 0, i64 5] [] rfl ⟨agg3 .same .same .same, .same, .same, trivial⟩
          · have h8' := Int.not_lt.mpr h8
            conv => whnf
            repeat (first | ((with_reducible first | apply ga | apply gb | apply gc | apply gd | apply ge | apply gf | apply gg | apply gh | apply gi | apply gj); conv => whnf) | (refine ⟨⟨rfl, rfl, nle rfl, nle rfl⟩, ?_⟩; conv => whnf) | fail)
            refine ⟨⟨by omega, by omega⟩, ?_⟩
            conv => whnf
            repeat (first | ((with_reducible first | apply ga | apply gb | apply gc | apply gd | apply ge | apply gf | apply gg | apply gh | apply gi | apply gj); conv => whnf) | (refine ⟨⟨rfl, rfl, nle rfl, nle rfl⟩, ?_⟩; conv => whnf) | fail)
            rw [show ((nameLen s : Int)).toNat = nameLen s from Int.toNat_natCast _]
            refine ⟨fun he => ?_, fun he => ?_⟩ <;> replace he := nm he <;> (try simp only [Int.toNat_zero] at he) <;> (try simp only [Int.toNat_one] at he)
            · conv => whnf
              repeat (first | ((with_reducible first | apply ga | apply gb | apply gc | apply gd | apply ge | apply gf | apply gg | apply gh | apply gi | apply gj); conv => whnf) | (refine ⟨⟨rfl, rfl, nle rfl, nle rfl⟩, ?_⟩; conv => whnf) | fail)
              have hO : opnd s = (⟨2, s.take (nameLen s), 0⟩, 0, 0) := by rw [opnd, if_neg hA, if_neg h8', if_pos he]
              rw [hO]
              exact done_tup [Arg.av ⟨2, s.take (nameLen s), 0⟩, i64 0, i64 0] [] rfl ⟨agg3 .same .same .same, .same, .same, trivial⟩
            · have hlt : nameLen s < s.length := by omega
              have hd : s.drop ((nameLen s : Int) + 1).toNat = s.drop (nameLen s + 1) := by congr 1
              conv => whnf
              repeat (first | ((with_reducible first | apply ga | apply gb | apply gc | apply gd | apply ge | apply gf | apply gg | apply gh | apply gi | apply gj); conv => whnf) | (refine ⟨⟨rfl, rfl, nle rfl, nle rfl⟩, ?_⟩; conv => whnf) | fail)
              refine ⟨⟨by omega, by omega⟩, ?_⟩
              conv => whnf
              repeat (first | ((with_reducible first | apply ga | apply gb | apply gc | apply gd | apply ge | apply gf | apply gg | apply gh | apply gi | apply gj); conv => whnf) | (refine ⟨⟨rfl, rfl, nle rfl, nle rfl⟩, ?_⟩; conv => whnf) | fail)
              rw [show ((nameLen s : Int)).toNat = nameLen s from Int.toNat_natCast _]
              refine ⟨fun h43 => ?_, fun h43 => ?_⟩ <;> replace h43 := nm h43 <;> (try simp only [Int.toNat_zero] at h43) <;> (try simp only [Int.toNat_one] at h43)
              · conv => whnf
                repeat (first | ((with_reducible first | apply ga | apply gb | apply gc | apply gd | apply ge | apply gf | apply gg | apply gh | apply gi | apply gj); conv => whnf) | (refine ⟨⟨rfl, rfl, nle rfl, nle rfl⟩, ?_⟩; conv => whnf) | fail)
                refine ⟨⟨by omega, by omega⟩, ?_⟩
                conv => whnf
                repeat (first | ((with_reducible first | apply ga | apply gb | apply gc | apply gd | apply ge | apply gf | apply gg | apply gh | apply gi | apply gj); conv => whnf) | (refine ⟨⟨rfl, rfl, nle rfl, nle rfl⟩, ?_⟩; conv => whnf) | fail)
                rw [show ((nameLen s : Int)).toNat = nameLen s from Int.toNat_natCast _]
                refine ⟨fun h45 => ?_, fun h45 => ?_⟩ <;> replace h45 := nm h45 <;> (try simp only [Int.toNat_zero] at h45) <;> (try simp only [Int.toNat_one] at h45)
                · conv => whnf
                  repeat (first | ((with_reducible first | apply ga | apply gb | apply gc | apply gd | apply ge | apply gf | apply gg | apply gh | apply gi | apply gj); conv => whnf) | (refine ⟨⟨rfl, rfl, nle rfl, nle rfl⟩, ?_⟩; conv => whnf) | fail)
                  have hO : opnd s = (az, (nameLen s : Int), 5) := by rw [opnd, if_neg hA, if_neg h8', if_neg he, if_neg (fun h => h.elim h43 h45)]
                  rw [hO]
                  exact done_tup [Arg.av az, i64 ((nameLen s : Int)), i64 5] [] rfl ⟨agg3 .same .same .same, .same, .same, trivial⟩
                · have hS : ((s.getD (nameLen s) 0).toNat : Int) = 43 ∨ ((s.getD (nameLen s) 0).toNat : Int) = 45 := .inr h45
                  conv => whnf
                  repeat (first | ((with_reducible first | apply ga | apply gb | apply gc | apply gd | apply ge | apply gf | apply gg | apply gh | apply gi | apply gj); conv => whnf) | (refine ⟨⟨rfl, rfl, nle rfl, nle rfl⟩, ?_⟩; conv => whnf) | fail)
                  refine ⟨⟨by unfold inI64; omega⟩, ?_⟩
                  conv => whnf
                  repeat (first | ((with_reducible first | apply ga | apply gb | apply gc | apply gd | apply ge | apply gf | apply gg | apply gh | apply gi | apply gj); conv => whnf) | (refine ⟨⟨rfl, rfl, nle rfl, nle rfl⟩, ?_⟩; conv => whnf) | fail)
                  refine ⟨⟨by omega, by omega⟩, ?_⟩
                  conv => whnf
                  repeat (first | ((with_reducible first | apply ga | apply gb | apply gc | apply gd | apply ge | apply gf | apply gg | apply gh | apply gi | apply gj); conv => whnf) | (refine ⟨⟨rfl, rfl, nle rfl, nle rfl⟩, ?_⟩; conv => whnf) | fail)
                  rw [hd]
                  refine ⟨fun hne => ?_, fun hne => ?_⟩ <;> replace hne := nm hne <;> (try simp only [Int.toNat_zero] at hne) <;> (try simp only [Int.toNat_one] at hne)
                  · conv => whnf
                    repeat (first | ((with_reducible first | apply ga | apply gb | apply gc | apply gd | apply ge | apply gf | apply gg | apply gh | apply gi | apply gj); conv => whnf) | (refine ⟨⟨rfl, rfl, nle rfl, nle rfl⟩, ?_⟩; conv => whnf) | fail)
                    refine ⟨⟨by omega, by cases hq : s.drop (nameLen s + 1) with | nil => exact absurd hq hne | cons _ _ => simp⟩, ?_⟩
                    conv => whnf
                    repeat (first | ((with_reducible first | apply ga | apply gb | apply gc | apply gd | apply ge | apply gf | apply gg | apply gh | apply gi | apply gj); conv => whnf) | (refine ⟨⟨rfl, rfl, nle rfl, nle rfl⟩, ?_⟩; conv => whnf) | fail)
                    refine ⟨fun hm0 => ?_, fun hm0 => ?_⟩ <;> replace hm0 := nm hm0 <;> (try simp only [Int.toNat_zero] at hm0) <;> (try simp only [Int.toNat_one] at hm0)
                    · have hm : [45].isPrefixOf (s.drop (nameLen s + 1)) = true := by
                        rw [pre1, decide_eq_true (by cases hq : s.drop (nameLen s + 1) with | nil => exact absurd hq hne | cons _ _ => simp), Bool.true_and]; exact beq_iff_eq.mpr hm0
                      conv => whnf
                      repeat (first | ((with_reducible first | apply ga | apply gb | apply gc | apply gd | apply ge | apply gf | apply gg | apply gh | apply gi | apply gj); conv => whnf) | (refine ⟨⟨rfl, rfl, nle rfl, nle rfl⟩, ?_⟩; conv => whnf) | fail)
                      refine ⟨⟨by unfold inI64; omega⟩, ?_⟩
                      conv => whnf
                      repeat (first | ((with_reducible first | apply ga | apply gb | apply gc | apply gd | apply ge | apply gf | apply gg | apply gh | apply gi | apply gj); conv => whnf) | (refine ⟨⟨rfl, rfl, nle rfl, nle rfl⟩, ?_⟩; conv => whnf) | fail)
                      have hO : opnd s = (az, ((nameLen s : Int) + 1), 5) := by rw [opnd, if_neg hA, if_neg h8', if_neg he, if_pos hS, if_pos hm]
                      rw [hO]
                      exact done_tup [Arg.av az, i64 (((nameLen s : Int) + 1)), i64 5] [] rfl ⟨agg3 .same .same .same, .same, .same, trivial⟩
                    · have hm : [45].isPrefixOf (s.drop (nameLen s + 1)) = false := by
                        rw [pre1, show ((((s.drop (nameLen s + 1)).getD 0 0).toNat : Int) == ((45 : UInt8).toNat : Int)) = false from beq_eq_false_iff_ne.mpr hm0, Bool.and_false]
                      conv => whnf
                      repeat (first | ((with_reducible first | apply ga | apply gb | apply gc | apply gd | apply ge | apply gf | apply gg | apply gh | apply gi | apply gj); conv => whnf) | (refine ⟨⟨rfl, rfl, nle rfl, nle rfl⟩, ?_⟩; conv => whnf) | fail)
                      have hm' : ¬ [45].isPrefixOf (s.drop (nameLen s + 1)) = true := by rw [hm]; simp
                      refine CallK.flat [] (f15 (s.drop (nameLen s + 1)) hr) ⟨.same, trivial⟩ rfl ?_
                      conv => whnf
                      repeat (first | ((with_reducible first | apply ga | apply gb | apply gc | apply gd | apply ge | apply gf | apply gg | apply gh | apply gi | apply gj); conv => whnf) | (refine ⟨⟨rfl, rfl, nle rfl, nle rfl⟩, ?_⟩; conv => whnf) | fail)
                      refine ⟨fun hn => ?_, fun hn => ?_⟩ <;> replace hn := nm hn <;> (try simp only [Int.toNat_zero] at hn) <;> (try simp only [Int.toNat_one] at hn)
                      · conv => whnf
                        repeat (first | ((with_reducible first | apply ga | apply gb | apply gc | apply gd | apply ge | apply gf | apply gg | apply gh | apply gi | apply gj); conv => whnf) | (refine ⟨⟨rfl, rfl, nle rfl, nle rfl⟩, ?_⟩; conv => whnf) | fail)
                        refine ⟨⟨by unfold inI64; omega⟩, ?_⟩
                        conv => whnf
                        repeat (first | ((with_reducible first | apply ga | apply gb | apply gc | apply gd | apply ge | apply gf | apply gg | apply gh | apply gi | apply gj); conv => whnf) | (refine ⟨⟨rfl, rfl, nle rfl, nle rfl⟩, ?_⟩; conv => whnf) | fail)
                        have hO : opnd s = (az, ((nameLen s : Int) + 1), (num (s.drop (nameLen s + 1))).2) := by rw [opnd, if_neg hA, if_neg h8', if_neg he, if_pos hS, if_neg hm', if_pos hn]
                        rw [hO]
                        exact done_tup [Arg.av az, i64 (((nameLen s : Int) + 1)), i64 ((num (s.drop (nameLen s + 1))).2)] [] rfl ⟨agg3 .same .same .same, .same, .same, trivial⟩
                      · conv => whnf
                        repeat (first | ((with_reducible first | apply ga | apply gb | apply gc | apply gd | apply ge | apply gf | apply gg | apply gh | apply gi | apply gj); conv => whnf) | (refine ⟨⟨rfl, rfl, nle rfl, nle rfl⟩, ?_⟩; conv => whnf) | fail)
                        refine ⟨⟨by omega, by omega⟩, ?_⟩
                        conv => whnf
                        repeat (first | ((with_reducible first | apply ga | apply gb | apply gc | apply gd | apply ge | apply gf | apply gg | apply gh | apply gi | apply gj); conv => whnf) | (refine ⟨⟨rfl, rfl, nle rfl, nle rfl⟩, ?_⟩; conv => whnf) | fail)
                        rw [show ((nameLen s : Int)).toNat = nameLen s from Int.toNat_natCast _]
                        refine ⟨fun h45x => ?_, fun h45x => ?_⟩ <;> replace h45x := nm h45x <;> (try simp only [Int.toNat_zero] at h45x) <;> (try simp only [Int.toNat_one] at h45x)
                        · conv => whnf
                          repeat (first | ((with_reducible first | apply ga | apply gb | apply gc | apply gd | apply ge | apply gf | apply gg | apply gh | apply gi | apply gj); conv => whnf) | (refine ⟨⟨rfl, rfl, nle rfl, nle rfl⟩, ?_⟩; conv => whnf) | fail)
                          refine ⟨⟨by unfold inI64; omega⟩, ?_⟩
                          conv => whnf
                          repeat (first | ((with_reducible first | apply ga | apply gb | apply gc | apply gd | apply ge | apply gf | apply gg | apply gh | apply gi | apply gj); conv => whnf) | (refine ⟨⟨rfl, rfl, nle rfl, nle rfl⟩, ?_⟩; conv => whnf) | fail)
                          have hO : opnd s = (⟨2, s.take (nameLen s), -(num (s.drop (nameLen s + 1))).1⟩, 0, 0) := by rw [opnd, if_neg hA, if_neg h8', if_neg he, if_pos hS, if_neg hm', if_neg (fun h => h hn), if_pos h45]
                          rw [hO]
                          exact done_tup [Arg.av ⟨2, s.take (nameLen s), -(num (s.drop (nameLen s + 1))).1⟩, i64 0, i64 0] [] rfl ⟨agg3 .same .same (.int (by dsimp only <;> omega)), .same, .same, trivial⟩
                        · exact absurd h45 h45x
                  · have hm : [45].isPrefixOf (s.drop (nameLen s + 1)) = false := by
                      rw [pre1, List.eq_nil_of_length_eq_zero (l := s.drop (nameLen s + 1)) (by cases hq : s.drop (nameLen s + 1) with | nil => rfl | cons _ _ => rw [hq] at hne; simp at hne)]; rfl
                    conv => whnf
                    repeat (first | ((with_reducible first | apply ga | apply gb | apply gc | apply gd | apply ge | apply gf | apply gg | apply gh | apply gi | apply gj); conv => whnf) | (refine ⟨⟨rfl, rfl, nle rfl, nle rfl⟩, ?_⟩; conv => whnf) | fail)
                    have hm' : ¬ [45].isPrefixOf (s.drop (nameLen s + 1)) = true := by rw [hm]; simp
                    refine CallK.flat [] (f15 (s.drop (nameLen s + 1)) hr) ⟨.same, trivial⟩ rfl ?_
                    conv => whnf
                    repeat (first | ((with_reducible first | apply ga | apply gb | apply gc | apply gd | apply ge | apply gf | apply gg | apply gh | apply gi | apply gj); conv => whnf) | (refine ⟨⟨rfl, rfl, nle rfl, nle rfl⟩, ?_⟩; conv => whnf) | fail)
                    refine ⟨fun hn => ?_, fun hn => ?_⟩ <;> replace hn := nm hn <;> (try simp only [Int.toNat_zero] at hn) <;> (try simp only [Int.toNat_one] at hn)
                    · conv => whnf
                      repeat (first | ((with_reducible first | apply ga | apply gb | apply gc | apply gd | apply ge | apply gf | apply gg | apply gh | apply gi | apply gj); conv => whnf) | (refine ⟨⟨rfl, rfl, nle rfl, nle rfl⟩, ?_⟩; conv => whnf) | fail)
                      refine ⟨⟨by unfold inI64; omega⟩, ?_⟩
                      conv => whnf
                      repeat (first | ((with_reducible first | apply ga | apply gb | apply gc | apply gd | apply ge | apply gf | apply gg | apply gh | apply gi | apply gj); conv => whnf) | (refine ⟨⟨rfl, rfl, nle rfl, nle rfl⟩, ?_⟩; conv => whnf) | fail)
                      have hO : opnd s = (az, ((nameLen s : Int) + 1), (num (s.drop (nameLen s + 1))).2) := by rw [opnd, if_neg hA, if_neg h8', if_neg he, if_pos hS, if_neg hm', if_pos hn]
                      rw [hO]
                      exact done_tup [Arg.av az, i64 (((nameLen s : Int) + 1)), i64 ((num (s.drop (nameLen s + 1))).2)] [] rfl ⟨agg3 .same .same .same, .same, .same, trivial⟩
                    · conv => whnf
                      repeat (first | ((with_reducible first | apply ga | apply gb | apply gc | apply gd | apply ge | apply gf | apply gg | apply gh | apply gi | apply gj); conv => whnf) | (refine ⟨⟨rfl, rfl, nle rfl, nle rfl⟩, ?_⟩; conv => whnf) | fail)
                      refine ⟨⟨by omega, by omega⟩, ?_⟩
                      conv => whnf
                      repeat (first | ((with_reducible first | apply ga | apply gb | apply gc | apply gd | apply ge | apply gf | apply gg | apply gh | apply gi | apply gj); conv => whnf) | (refine ⟨⟨rfl, rfl, nle rfl, nle rfl⟩, ?_⟩; conv => whnf) | fail)
                      rw [show ((nameLen s : Int)).toNat = nameLen s from Int.toNat_natCast _]
                      refine ⟨fun h45x => ?_, fun h45x => ?_⟩ <;> replace h45x := nm h45x <;> (try simp only [Int.toNat_zero] at h45x) <;> (try simp only [Int.toNat_one] at h45x)
                      · conv => whnf
                        repeat (first | ((with_reducible first | apply ga | apply gb | apply gc | apply gd | apply ge | apply gf | apply gg | apply gh | apply gi | apply gj); conv => whnf) | (refine ⟨⟨rfl, rfl, nle rfl, nle rfl⟩, ?_⟩; conv => whnf) | fail)
                        refine ⟨⟨by unfold inI64; omega⟩, ?_⟩
                        conv => whnf
                        repeat (first | ((with_reducible first | apply ga | apply gb | apply gc | apply gd | apply ge | apply gf | apply gg | apply gh | apply gi | apply gj); conv => whnf) | (refine ⟨⟨rfl, rfl, nle rfl, nle rfl⟩, ?_⟩; conv => whnf) | fail)
                        have hO : opnd s = (⟨2, s.take (nameLen s), -(num (s.drop (nameLen s + 1))).1⟩, 0, 0) := by rw [opnd, if_neg hA, if_neg h8', if_neg he, if_pos hS, if_neg hm', if_neg (fun h => h hn), if_pos h45]
                        rw [hO]
                        exact done_tup [Arg.av ⟨2, s.take (nameLen s), -(num (s.drop (nameLen s + 1))).1⟩, i64 0, i64 0] [] rfl ⟨agg3 .same .same (.int (by dsimp only <;> omega)), .same, .same, trivial⟩
                      · exact absurd h45 h45x
              · have hS : ((s.getD (nameLen s) 0).toNat : Int) = 43 ∨ ((s.getD (nameLen s) 0).toNat : Int) = 45 := .inl h43
                conv => whnf
                repeat (first | ((with_reducible first | apply ga | apply gb | apply gc | apply gd | apply ge | apply gf | apply gg | apply gh | apply gi | apply gj); conv => whnf) | (refine ⟨⟨rfl, rfl, nle rfl, nle rfl⟩, ?_⟩; conv => whnf) | fail)
                refine ⟨⟨by unfold inI64; omega⟩, ?_⟩
                conv => whnf
                repeat (first | ((with_reducible first | apply ga | apply gb | apply gc | apply gd | apply ge | apply gf | apply gg | apply gh | apply gi | apply gj); conv => whnf) | (refine ⟨⟨rfl, rfl, nle rfl, nle rfl⟩, ?_⟩; conv => whnf) | fail)
                refine ⟨⟨by omega, by omega⟩, ?_⟩
                conv => whnf
                repeat (first | ((with_reducible first | apply ga | apply gb | apply gc | apply gd | apply ge | apply gf | apply gg | apply gh | apply gi | apply gj); conv => whnf) | (refine ⟨⟨rfl, rfl, nle rfl, nle rfl⟩, ?_⟩; conv => whnf) | fail)
                rw [hd]
                refine ⟨fun hne => ?_, fun hne => ?_⟩ <;> replace hne := nm hne <;> (try simp only [Int.toNat_zero] at hne) <;> (try simp only [Int.toNat_one] at hne)
                · conv => whnf
                  repeat (first | ((with_reducible first | apply ga | apply gb | apply gc | apply gd | apply ge | apply gf | apply gg | apply gh | apply gi | apply gj); conv => whnf) | (refine ⟨⟨rfl, rfl, nle rfl, nle rfl⟩, ?_⟩; conv => whnf) | fail)
                  refine ⟨⟨by omega, by cases hq : s.drop (nameLen s + 1) with | nil => exact absurd hq hne | cons _ _ => simp⟩, ?_⟩
                  conv => whnf
                  repeat (first | ((with_reducible first | apply ga | apply gb | apply gc | apply gd | apply ge | apply gf | apply gg | apply gh | apply gi | apply gj); conv => whnf) | (refine ⟨⟨rfl, rfl, nle rfl, nle rfl⟩, ?_⟩; conv => whnf) | fail)
                  refine ⟨fun hm0 => ?_, fun hm0 => ?_⟩ <;> replace hm0 := nm hm0 <;> (try simp only [Int.toNat_zero] at hm0) <;> (try simp only [Int.toNat_one] at hm0)
                  · have hm : [45].isPrefixOf (s.drop (nameLen s + 1)) = true := by
                      rw [pre1, decide_eq_true (by cases hq : s.drop (nameLen s + 1) with | nil => exact absurd hq hne | cons _ _ => simp), Bool.true_and]; exact beq_iff_eq.mpr hm0
                    conv => whnf
                    repeat (first | ((with_reducible first | apply ga | apply gb | apply gc | apply gd | apply ge | apply gf | apply gg | apply gh | apply gi | apply gj); conv => whnf) | (refine ⟨⟨rfl, rfl, nle rfl, nle rfl⟩, ?_⟩; conv => whnf) | fail)
                    refine ⟨⟨by unfold inI64; omega⟩, ?_⟩
                    conv => whnf
                    repeat (first | ((with_reducible first | apply ga | apply gb | apply gc | apply gd | apply ge | apply gf | apply gg | apply gh | apply gi | apply gj); conv => whnf) | (refine ⟨⟨rfl, rfl, nle rfl, nle rfl⟩, ?_⟩; conv => whnf) | fail)
                    have hO : opnd s = (az, ((nameLen s : Int) + 1), 5) := by rw [opnd, if_neg hA, if_neg h8', if_neg he, if_pos hS, if_pos hm]
                    rw [hO]
                    exact done_tup [Arg.av az, i64 (((nameLen s : Int) + 1)), i64 5] [] rfl ⟨agg3 .same .same .same, .same, .same, trivial⟩
                  · have hm : [45].isPrefixOf (s.drop (nameLen s + 1)) = false := by
                      rw [pre1, show ((((s.drop (nameLen s + 1)).getD 0 0).toNat : Int) == ((45 : UInt8).toNat : Int)) = false from beq_eq_false_iff_ne.mpr hm0, Bool.and_false]
                    conv => whnf
                    repeat (first | ((with_reducible first | apply ga | apply gb | apply gc | apply gd | apply ge | apply gf | apply gg | apply gh | apply gi | apply gj); conv => whnf) | (refine ⟨⟨rfl, rfl, nle rfl, nle rfl⟩, ?_⟩; conv => whnf) | fail)
                    have hm' : ¬ [45].isPrefixOf (s.drop (nameLen s + 1)) = true := by rw [hm]; simp
                    refine CallK.flat [] (f15 (s.drop (nameLen s + 1)) hr) ⟨.same, trivial⟩ rfl ?_
                    conv => whnf
                    repeat (first | ((with_reducible first | apply ga | apply gb | apply gc | apply gd | apply ge | apply gf | apply gg | apply gh | apply gi | apply gj); conv => whnf) | (refine ⟨⟨rfl, rfl, nle rfl, nle rfl⟩, ?_⟩; conv => whnf) | fail)
                    refine ⟨fun hn => ?_, fun hn => ?_⟩ <;> replace hn := nm hn <;> (try simp only [Int.toNat_zero] at hn) <;> (try simp only [Int.toNat_one] at hn)
                    · conv => whnf
                      repeat (first | ((with_reducible first | apply ga | apply gb | apply gc | apply gd | apply ge | apply gf | apply gg | apply gh | apply gi | apply gj); conv => whnf) | (refine ⟨⟨rfl, rfl, nle rfl, nle rfl⟩, ?_⟩; conv => whnf) | fail)
                      refine ⟨⟨by unfold inI64; omega⟩, ?_⟩
                      conv => whnf
                      repeat (first | ((with_reducible first | apply ga | apply gb | apply gc | apply gd | apply ge | apply gf | apply gg | apply gh | apply gi | apply gj); conv => whnf) | (refine ⟨⟨rfl, rfl, nle rfl, nle rfl⟩, ?_⟩; conv => whnf) | fail)
                      have hO : opnd s = (az, ((nameLen s : Int) + 1), (num (s.drop (nameLen s + 1))).2) := by rw [opnd, if_neg hA, if_neg h8', if_neg he, if_pos hS, if_neg hm', if_pos hn]
                      rw [hO]
                      exact done_tup [Arg.av az, i64 (((nameLen s : Int) + 1)), i64 ((num (s.drop (nameLen s + 1))).2)] [] rfl ⟨agg3 .same .same .same, .same, .same, trivial⟩
                    · conv => whnf
                      repeat (first | ((with_reducible first | apply ga | apply gb | apply gc | apply gd | apply ge | apply gf | apply gg | apply gh | apply gi | apply gj); conv => whnf) | (refine ⟨⟨rfl, rfl, nle rfl, nle rfl⟩, ?_⟩; conv => whnf) | fail)
                      refine ⟨⟨by omega, by omega⟩, ?_⟩
                      conv => whnf
                      repeat (first | ((with_reducible first | apply ga | apply gb | apply gc | apply gd | apply ge | apply gf | apply gg | apply gh | apply gi | apply gj); conv => whnf) | (refine ⟨⟨rfl, rfl, nle rfl, nle rfl⟩, ?_⟩; conv => whnf) | fail)
                      rw [show ((nameLen s : Int)).toNat = nameLen s from Int.toNat_natCast _]
                      refine ⟨fun h45x => ?_, fun h45x => ?_⟩ <;> replace h45x := nm h45x <;> (try simp only [Int.toNat_zero] at h45x) <;> (try simp only [Int.toNat_one] at h45x)
                      · exfalso; omega
                      · conv => whnf
                        repeat (first | ((with_reducible first | apply ga | apply gb | apply gc | apply gd | apply ge | apply gf | apply gg | apply gh | apply gi | apply gj); conv => whnf) | (refine ⟨⟨rfl, rfl, nle rfl, nle rfl⟩, ?_⟩; conv => whnf) | fail)
                        have hO : opnd s = (⟨2, s.take (nameLen s), (num (s.drop (nameLen s + 1))).1⟩, 0, 0) := by rw [opnd, if_neg hA, if_neg h8', if_neg he, if_pos hS, if_neg hm', if_neg (fun h => h hn), if_neg (by omega)]
                        rw [hO]
                        exact done_tup [Arg.av ⟨2, s.take (nameLen s), (num (s.drop (nameLen s + 1))).1⟩, i64 0, i64 0] [] rfl ⟨agg3 .same .same (.int (by dsimp only <;> omega)), .same, .same, trivial⟩
                · have hm : [45].isPrefixOf (s.drop (nameLen s + 1)) = false := by
                    rw [pre1, List.eq_nil_of_length_eq_zero (l := s.drop (nameLen s + 1)) (by cases hq : s.drop (nameLen s + 1) with | nil => rfl | cons _ _ => rw [hq] at hne; simp at hne)]; rfl
                  conv => whnf
                  repeat (first | ((with_reducible first | apply ga | apply gb | apply gc | apply gd | apply ge | apply gf | apply gg | apply gh | apply gi | apply gj); conv => whnf) | (refine ⟨⟨rfl, rfl, nle rfl, nle rfl⟩, ?_⟩; conv => whnf) | fail)
                  have hm' : ¬ [45].isPrefixOf (s.drop (nameLen s + 1)) = true := by rw [hm]; simp
                  refine CallK.flat [] (f15 (s.drop (nameLen s + 1)) hr) ⟨.same, trivial⟩ rfl ?_
                  conv => whnf
                  repeat (first | ((with_reducible first | apply ga | apply gb | apply gc | apply gd | apply ge | apply gf | apply gg | apply gh | apply gi | apply gj); conv => whnf) | (refine ⟨⟨rfl, rfl, nle rfl, nle rfl⟩, ?_⟩; conv => whnf) | fail)
                  refine ⟨fun hn => ?_, fun hn => ?_⟩ <;> replace hn := nm hn <;> (try simp only [Int.toNat_zero] at hn) <;> (try simp only [Int.toNat_one] at hn)
                  · conv => whnf
                    repeat (first | ((with_reducible first | apply ga | apply gb | apply gc | apply gd | apply ge | apply gf | apply gg | apply gh | apply gi | apply gj); conv => whnf) | (refine ⟨⟨rfl, rfl, nle rfl, nle rfl⟩, ?_⟩; conv => whnf) | fail)
                    refine ⟨⟨by unfold inI64; omega⟩, ?_⟩
                    conv => whnf
                    repeat (first | ((with_reducible first | apply ga | apply gb | apply gc | apply gd | apply ge | apply gf | apply gg | apply gh | apply gi | apply gj); conv => whnf) | (refine ⟨⟨rfl, rfl, nle rfl, nle rfl⟩, ?_⟩; conv => whnf) | fail)
                    have hO : opnd s = (az, ((nameLen s : Int) + 1), (num (s.drop (nameLen s + 1))).2) := by rw [opnd, if_neg hA, if_neg h8', if_neg he, if_pos hS, if_neg hm', if_pos hn]
                    rw [hO]
                    exact done_tup [Arg.av az, i64 (((nameLen s : Int) + 1)), i64 ((num (s.drop (nameLen s + 1))).2)] [] rfl ⟨agg3 .same .same .same, .same, .same, trivial⟩
                  · conv => whnf
                    repeat (first | ((with_reducible first | apply ga | apply gb | apply gc | apply gd | apply ge | apply gf | apply gg | apply gh | apply gi | apply gj); conv => whnf) | (refine ⟨⟨rfl, rfl, nle rfl, nle rfl⟩, ?_⟩; conv => whnf) | fail)
                    refine ⟨⟨by omega, by omega⟩, ?_⟩
                    conv => whnf
                    repeat (first | ((with_reducible first | apply ga | apply gb | apply gc | apply gd | apply ge | apply gf | apply gg | apply gh | apply gi | apply gj); conv => whnf) | (refine ⟨⟨rfl, rfl, nle rfl, nle rfl⟩, ?_⟩; conv => whnf) | fail)
                    rw [show ((nameLen s : Int)).toNat = nameLen s from Int.toNat_natCast _]
                    refine ⟨fun h45x => ?_, fun h45x => ?_⟩ <;> replace h45x := nm h45x <;> (try simp only [Int.toNat_zero] at h45x) <;> (try simp only [Int.toNat_one] at h45x)
                    · exfalso; omega
                    · conv => whnf
                      repeat (first | ((with_reducible first | apply ga | apply gb | apply gc | apply gd | apply ge | apply gf | apply gg | apply gh | apply gi | apply gj); conv => whnf) | (refine ⟨⟨rfl, rfl, nle rfl, nle rfl⟩, ?_⟩; conv => whnf) | fail)
                      have hO : opnd s = (⟨2, s.take (nameLen s), (num (s.drop (nameLen s + 1))).1⟩, 0, 0) := by rw [opnd, if_neg hA, if_neg h8', if_neg he, if_pos hS, if_neg hm', if_neg (fun h => h hn), if_neg (by omega)]
                      rw [hO]
                      exact done_tup [Arg.av ⟨2, s.take (nameLen s), (num (s.drop (nameLen s + 1))).1⟩, i64 0, i64 0] [] rfl ⟨agg3 .same .same (.int (by dsimp only <;> omega)), .same, .same, trivial⟩
      · obtain rfl : i = nameLen s := by unfold nameLen at hk ⊢; omega
        clear hi hc
        conv => whnf
        repeat (first | ((with_reducible first | apply ga | apply gb | apply gc | apply gd | apply ge | apply gf | apply gg | apply gh | apply gi | apply gj); conv => whnf) | (refine ⟨⟨rfl, rfl, nle rfl, nle rfl⟩, ?_⟩; conv => whnf) | fail)
        refine ⟨fun h8 => ?_, fun h8 => ?_⟩ <;> replace h8 := nm h8 <;> (try simp only [Int.toNat_zero] at h8) <;> (try simp only [Int.toNat_one] at h8)
        · conv => whnf
          repeat (first | ((with_reducible first | apply ga | apply gb | apply gc | apply gd | apply ge | apply gf | apply gg | apply gh | apply gi | apply gj); conv => whnf) | (refine ⟨⟨rfl, rfl, nle rfl, nle rfl⟩, ?_⟩; conv => whnf) | fail)
          have hO : opnd s = (az, 0, 5) := by rw [opnd, if_neg hA, if_pos h8]
          rw [hO]
          exact done_tup [Arg.av az, i64 0, i64 5] [] rfl ⟨agg3 .same .same .same, .same, .same, trivial⟩
        · have h8' := Int.not_lt.mpr h8
          conv => whnf
          repeat (first | ((with_reducible first | apply ga | apply gb | apply gc | apply gd | apply ge | apply gf | apply gg | apply gh | apply gi | apply gj); conv => whnf) | (refine ⟨⟨rfl, rfl, nle rfl, nle rfl⟩, ?_⟩; conv => whnf) | fail)
          refine ⟨⟨by omega, by omega⟩, ?_⟩
          conv => whnf
          repeat (first | ((with_reducible first | apply ga | apply gb | apply gc | apply gd | apply ge | apply gf | apply gg | apply gh | apply gi | apply gj); conv => whnf) | (refine ⟨⟨rfl, rfl, nle rfl, nle rfl⟩, ?_⟩; conv => whnf) | fail)
          rw [show ((nameLen s : Int)).toNat = nameLen s from Int.toNat_natCast _]
          refine ⟨fun he => ?_, fun he => ?_⟩ <;> replace he := nm he <;> (try simp only [Int.toNat_zero] at he) <;> (try simp only [Int.toNat_one] at he)
          · conv => whnf
            repeat (first | ((with_reducible first | apply ga | apply gb | apply gc | apply gd | apply ge | apply gf | apply gg | apply gh | apply gi | apply gj); conv => whnf) | (refine ⟨⟨rfl, rfl, nle rfl, nle rfl⟩, ?_⟩; conv => whnf) | fail)
            have hO : opnd s = (⟨2, s.take (nameLen s), 0⟩, 0, 0) := by rw [opnd, if_neg hA, if_neg h8', if_pos he]
            rw [hO]
            exact done_tup [Arg.av ⟨2, s.take (nameLen s), 0⟩, i64 0, i64 0] [] rfl ⟨agg3 .same .same .same, .same, .same, trivial⟩
          · have hlt : nameLen s < s.length := by omega
            have hd : s.drop ((nameLen s : Int) + 1).toNat = s.drop (nameLen s + 1) := by congr 1
            conv => whnf
            repeat (first | ((with_reducible first | apply ga | apply gb | apply gc | apply gd | apply ge | apply gf | apply gg | apply gh | apply gi | apply gj); conv => whnf) | (refine ⟨⟨rfl, rfl, nle rfl, nle rfl⟩, ?_⟩; conv => whnf) | fail)
            refine ⟨⟨by omega, by omega⟩, ?_⟩
            conv => whnf
            repeat (first | ((with_reducible first | apply ga | apply gb | apply gc | apply gd | apply ge | apply gf | apply gg | apply gh | apply gi | apply gj); conv => whnf) | (refine ⟨⟨rfl, rfl, nle rfl, nle rfl⟩, ?_⟩; conv => whnf) | fail)
            rw [show ((nameLen s : Int)).toNat = nameLen s from Int.toNat_natCast _]
            refine ⟨fun h43 => ?_, fun h43 => ?_⟩ <;> replace h43 := nm h43 <;> (try simp only [Int.toNat_zero] at h43) <;> (try simp only [Int.toNat_one] at h43)
            · conv => whnf
              repeat (first | ((with_reducible first | apply ga | apply gb | apply gc | apply gd | apply ge | apply gf | apply gg | apply gh | apply gi | apply gj); conv => whnf) | (refine ⟨⟨rfl, rfl, nle rfl, nle rfl⟩, ?_⟩; conv => whnf) | fail)
              refine ⟨⟨by omega, by omega⟩, ?_⟩
              conv => whnf
              repeat (first | ((with_reducible first | apply ga | apply gb | apply gc | apply gd | apply ge | apply gf | apply gg | apply gh | apply gi | apply gj); conv => whnf) | (refine ⟨⟨rfl, rfl, nle rfl, nle rfl⟩, ?_⟩; conv => whnf) | fail)
              rw [show ((nameLen s : Int)).toNat = nameLen s from Int.toNat_natCast _]
              refine ⟨fun h45 => ?_, fun h45 => ?_⟩ <;> replace h45 := nm h45 <;> (try simp only [Int.toNat_zero] at h45) <;> (try simp only [Int.toNat_one] at h45)
              · conv => whnf
                repeat (first | ((with_reducible first | apply ga | apply gb | apply gc | apply gd | apply ge | apply gf | apply gg | apply gh | apply gi | apply gj); conv => whnf) | (refine ⟨⟨rfl, rfl, nle rfl, nle rfl⟩, ?_⟩; conv => whnf) | fail)
                have hO : opnd s = (az, (nameLen s : Int), 5) := by rw [opnd, if_neg hA, if_neg h8', if_neg he, if_neg (fun h => h.elim h43 h45)]
                rw [hO]
                exact done_tup [Arg.av az, i64 ((nameLen s : Int)), i64 5] [] rfl ⟨agg3 .same .same .same, .same, .same, trivial⟩
              · have hS : ((s.getD (nameLen s) 0).toNat : Int) = 43 ∨ ((s.getD (nameLen s) 0).toNat : Int) = 45 := .inr h45
                conv => whnf
                repeat (first | ((with_reducible first | apply ga | apply gb | apply gc | apply gd | apply ge | apply gf | apply gg | apply gh | apply gi | apply gj); conv => whnf) | (refine ⟨⟨rfl, rfl, nle rfl, nle rfl⟩, ?_⟩; conv => whnf) | fail)
                refine ⟨⟨by unfold inI64; omega⟩, ?_⟩
                conv => whnf
                repeat (first | ((with_reducible first | apply ga | apply gb | apply gc | apply gd | apply ge | apply gf | apply gg | apply gh | apply gi | apply gj); conv => whnf) | (refine ⟨⟨rfl, rfl, nle rfl, nle rfl⟩, ?_⟩; conv => whnf) | fail)
                refine ⟨⟨by omega, by omega⟩, ?_⟩
                conv => whnf
                repeat (first | ((with_reducible first | apply ga | apply gb | apply gc | apply gd | apply ge | apply gf | apply gg | apply gh | apply gi | apply gj); conv => whnf) | (refine ⟨⟨rfl, rfl, nle rfl, nle rfl⟩, ?_⟩; conv => whnf) | fail)
                rw [hd]
                refine ⟨fun hne => ?_, fun hne => ?_⟩ <;> replace hne := nm hne <;> (try simp only [Int.toNat_zero] at hne) <;> (try simp only [Int.toNat_one] at hne)
                · conv => whnf
                  repeat (first | ((with_reducible first | apply ga | apply gb | apply gc | apply gd | apply ge | apply gf | apply gg | apply gh | apply gi | apply gj); conv => whnf) | (refine ⟨⟨rfl, rfl, nle rfl, nle rfl⟩, ?_⟩; conv => whnf) | fail)
                  refine ⟨⟨by omega, by cases hq : s.drop (nameLen s + 1) with | nil => exact absurd hq hne | cons _ _ => simp⟩, ?_⟩
                  conv => whnf
                  repeat (first | ((with_reducible first | apply ga | apply gb | apply gc | apply gd | apply ge | apply gf | apply gg | apply gh | apply gi | apply gj); conv => whnf) | (refine ⟨⟨rfl, rfl, nle rfl, nle rfl⟩, ?_⟩; conv => whnf) | fail)
                  refine ⟨fun hm0 => ?_, fun hm0 => ?_⟩ <;> replace hm0 := nm hm0 <;> (try simp only [Int.toNat_zero] at hm0) <;> (try simp only [Int.toNat_one] at hm0)
                  · have hm : [45].isPrefixOf (s.drop (nameLen s + 1)) = true := by
                      rw [pre1, decide_eq_true (by cases hq : s.drop (nameLen s + 1) with | nil => exact absurd hq hne | cons _ _ => simp), Bool.true_and]; exact beq_iff_eq.mpr hm0
                    conv => whnf
                    repeat (first | ((with_reducible first | apply ga | apply gb | apply gc | apply gd | apply ge | apply gf | apply gg | apply gh | apply gi | apply gj); conv => whnf) | (refine ⟨⟨rfl, rfl, nle rfl, nle rfl⟩, ?_⟩; conv => whnf) | fail)
                    refine ⟨⟨by unfold inI64; omega⟩, ?_⟩
                    conv => whnf
                    repeat (first | ((with_reducible first | apply ga | apply gb | apply gc | apply gd | apply ge | apply gf | apply gg | apply gh | apply gi | apply gj); conv => whnf) | (refine ⟨⟨rfl, rfl, nle rfl, nle rfl⟩, ?_⟩; conv => whnf) | fail)
                    have hO : opnd s = (az, ((nameLen s : Int) + 1), 5) := by rw [opnd, if_neg hA, if_neg h8', if_neg he, if_pos hS, if_pos hm]
                    rw [hO]
                    exact done_tup [Arg.av az, i64 (((nameLen s : Int) + 1)), i64 5] [] rfl ⟨agg3 .same .same .same, .same, .same, trivial⟩
                  · have hm : [45].isPrefixOf (s.drop (nameLen s + 1)) = false := by
                      rw [pre1, show ((((s.drop (nameLen s + 1)).getD 0 0).toNat : Int) == ((45 : UInt8).toNat : Int)) = false from beq_eq_false_iff_ne.mpr hm0, Bool.and_false]
                    conv => whnf
                    repeat (first | ((with_reducible first | apply ga | apply gb | apply gc | apply gd | apply ge | apply gf | apply gg | apply gh | apply gi | apply gj); conv => whnf) | (refine ⟨⟨rfl, rfl, nle rfl, nle rfl⟩, ?_⟩; conv => whnf) | fail)
                    have hm' : ¬ [45].isPrefixOf (s.drop (nameLen s + 1)) = true := by rw [hm]; simp
                    refine CallK.flat [] (f15 (s.drop (nameLen s + 1)) hr) ⟨.same, trivial⟩ rfl ?_
                    conv => whnf
                    repeat (first | ((with_reducible first | apply ga | apply gb | apply gc | apply gd | apply ge | apply gf | apply gg | apply gh | apply gi | apply gj); conv => whnf) | (refine ⟨⟨rfl, rfl, nle rfl, nle rfl⟩, ?_⟩; conv => whnf) | fail)
                    refine ⟨fun hn => ?_, fun hn => ?_⟩ <;> replace hn := nm hn <;> (try simp only [Int.toNat_zero] at hn) <;> (try simp only [Int.toNat_one] at hn)
                    · conv => whnf
                      repeat (first | ((with_reducible first | apply ga | apply gb | apply gc | apply gd | apply ge | apply gf | apply gg | apply gh | apply gi | apply gj); conv => whnf) | (refine ⟨⟨rfl, rfl, nle rfl, nle rfl⟩, ?_⟩; conv => whnf) | fail)
                      refine ⟨⟨by unfold inI64; omega⟩, ?_⟩
                      conv => whnf
                      repeat (first | ((with_reducible first | apply ga | apply gb | apply gc | apply gd | apply ge | apply gf | apply gg | apply gh | apply gi | apply gj); conv => whnf) | (refine ⟨⟨rfl, rfl, nle rfl, nle rfl⟩, ?_⟩; conv => whnf) | fail)
                      have hO : opnd s = (az, ((nameLen s : Int) + 1), (num (s.drop (nameLen s + 1))).2) := by rw [opnd, if_neg hA, if_neg h8', if_neg he, if_pos hS, if_neg hm', if_pos hn]
                      rw [hO]
                      exact done_tup [Arg.av az, i64 (((nameLen s : Int) + 1)), i64 ((num (s.drop (nameLen s + 1))).2)] [] rfl ⟨agg3 .same .same .same, .same, .same, trivial⟩
                    · conv => whnf
                      repeat (first | ((with_reducible first | apply ga | apply gb | apply gc | apply gd | apply ge | apply gf | apply gg | apply gh | apply gi | apply gj); conv => whnf) | (refine ⟨⟨rfl, rfl, nle rfl, nle rfl⟩, ?_⟩; conv => whnf) | fail)
                      refine ⟨⟨by omega, by omega⟩, ?_⟩
                      conv => whnf
                      repeat (first | ((with_reducible first | apply ga | apply gb | apply gc | apply gd | apply ge | apply gf | apply gg | apply gh | apply gi | apply gj); conv => whnf) | (refine ⟨⟨rfl, rfl, nle rfl, nle rfl⟩, ?_⟩; conv => whnf) | fail)
                      rw [show ((nameLen s : Int)).toNat = nameLen s from Int.toNat_natCast _]
                      refine ⟨fun h45x => ?_, fun h45x => ?_⟩ <;> replace h45x := nm h45x <;> (try simp only [Int.toNat_zero] at h45x) <;> (try simp only [Int.toNat_one] at h45x)
                      · conv => whnf
                        repeat (first | ((with_reducible first | apply ga | apply gb | apply gc | apply gd | apply ge | apply gf | apply gg | apply gh | apply gi | apply gj); conv => whnf) | (refine ⟨⟨rfl, rfl, nle rfl, nle rfl⟩, ?_⟩; conv => whnf) | fail)
                        refine ⟨⟨by unfold inI64; omega⟩, ?_⟩
                        conv => whnf
                        repeat (first | ((with_reducible first | apply ga | apply gb | apply gc | apply gd | apply ge | apply gf | apply gg | apply gh | apply gi | apply gj); conv => whnf) | (refine ⟨⟨rfl, rfl, nle rfl, nle rfl⟩, ?_⟩; conv => whnf) | fail)
                        have hO : opnd s = (⟨2, s.take (nameLen s), -(num (s.drop (nameLen s + 1))).1⟩, 0, 0) := by rw [opnd, if_neg hA, if_neg h8', if_neg he, if_pos hS, if_neg hm', if_neg (fun h => h hn), if_pos h45]
                        rw [hO]
                        exact done_tup [Arg.av ⟨2, s.take (nameLen s), -(num (s.drop (nameLen s + 1))).1⟩, i64 0, i64 0] [] rfl ⟨agg3 .same .same (.int (by dsimp only <;> omega)), .same, .same, trivial⟩
                      · exact absurd h45 h45x
                · have hm : [45].isPrefixOf (s.drop (nameLen s + 1)) = false := by
                    rw [pre1, List.eq_nil_of_length_eq_zero (l := s.drop (nameLen s + 1)) (by cases hq : s.drop (nameLen s + 1) with | nil => rfl | cons _ _ => rw [hq] at hne; simp at hne)]; rfl
                  conv => whnf
                  repeat (first | ((with_reducible first | apply ga | apply gb | apply gc | apply gd | apply ge | apply gf | apply gg | apply gh | apply gi | apply gj); conv => whnf) | (refine ⟨⟨rfl, rfl, nle rfl, nle rfl⟩, ?_⟩; conv => whnf) | fail)
                  have hm' : ¬ [45].isPrefixOf (s.drop (nameLen s + 1)) = true := by rw [hm]; simp
                  refine CallK.flat [] (f15 (s.drop (nameLen s + 1)) hr) ⟨.same, trivial⟩ rfl ?_
                  conv => whnf
                  repeat (first | ((with_reducible first | apply ga | apply gb | apply gc | apply gd | apply ge | apply gf | apply gg | apply gh | apply gi | apply gj); conv => whnf) | (refine ⟨⟨rfl, rfl, nle rfl, nle rfl⟩, ?_⟩; conv => whnf) | fail)
                  refine ⟨fun hn => ?_, fun hn => ?_⟩ <;> replace hn := nm hn <;> (try simp only [Int.toNat_zero] at hn) <;> (try simp only [Int.toNat_one] at hn)
                  · conv => whnf
                    repeat (first | ((with_reducible first | apply ga | apply gb | apply gc | apply gd | apply ge | apply gf | apply gg | apply gh | apply gi | apply gj); conv => whnf) | (refine ⟨⟨rfl, rfl, nle rfl, nle rfl⟩, ?_⟩; conv => whnf) | fail)
                    refine ⟨⟨by unfold inI64; omega⟩, ?_⟩
                    conv => whnf
                    repeat (first | ((with_reducible first | apply ga | apply gb | apply gc | apply gd | apply ge | apply gf | apply gg | apply gh | apply gi | apply gj); conv => whnf) | (refine ⟨⟨rfl, rfl, nle rfl, nle rfl⟩, ?_⟩; conv => whnf) | fail)
                    have hO : opnd s = (az, ((nameLen s : Int) + 1), (num (s.drop (nameLen s + 1))).2) := by rw [opnd, if_neg hA, if_neg h8', if_neg he, if_pos hS, if_neg hm', if_pos hn]
                    rw [hO]
                    exact done_tup [Arg.av az, i64 (((nameLen s : Int) + 1)), i64 ((num (s.drop (nameLen s + 1))).2)] [] rfl ⟨agg3 .same .same .same, .same, .same, trivial⟩
                  · conv => whnf
                    repeat (first | ((with_reducible first | apply ga | apply gb | apply gc | apply gd | apply ge | apply gf | apply gg | apply gh | apply gi | apply gj); conv => whnf) | (refine ⟨⟨rfl, rfl, nle rfl, nle rfl⟩, ?_⟩; conv => whnf) | fail)
                    refine ⟨⟨by omega, by omega⟩, ?_⟩
                    conv => whnf
                    repeat (first | ((with_reducible first | apply ga | apply gb | apply gc | apply gd | apply ge | apply gf | apply gg | apply gh | apply gi | apply gj); conv => whnf) | (refine ⟨⟨rfl, rfl, nle rfl, nle rfl⟩, ?_⟩; conv => whnf) | fail)
                    rw [show ((nameLen s : Int)).toNat = nameLen s from Int.toNat_natCast _]
                    refine ⟨fun h45x => ?_, fun h45x => ?_⟩ <;> replace h45x := nm h45x <;> (try simp only [Int.toNat_zero] at h45x) <;> (try simp only [Int.toNat_one] at h45x)
                    · conv => whnf
                      repeat (first | ((with_reducible first | apply ga | apply gb | apply gc | apply gd | apply ge | apply gf | apply gg | apply gh | apply gi | apply gj); conv => whnf) | (refine ⟨⟨rfl, rfl, nle rfl, nle rfl⟩, ?_⟩; conv => whnf) | fail)
                      refine ⟨⟨by unfold inI64; omega⟩, ?_⟩
                      conv => whnf
                      repeat (first | ((with_reducible first | apply ga | apply gb | apply gc | apply gd | apply ge | apply gf | apply gg | apply gh | apply gi | apply gj); conv => whnf) | (refine ⟨⟨rfl, rfl, nle rfl, nle rfl⟩, ?_⟩; conv => whnf) | fail)
                      have hO : opnd s = (⟨2, s.take (nameLen s), -(num (s.drop (nameLen s + 1))).1⟩, 0, 0) := by rw [opnd, if_neg hA, if_neg h8', if_neg he, if_pos hS, if_neg hm', if_neg (fun h => h hn), if_pos h45]
                      rw [hO]
                      exact done_tup [Arg.av ⟨2, s.take (nameLen s), -(num (s.drop (nameLen s + 1))).1⟩, i64 0, i64 0] [] rfl ⟨agg3 .same .same (.int (by dsimp only <;> omega)), .same, .same, trivial⟩
                    · exact absurd h45 h45x
            · have hS : ((s.getD (nameLen s) 0).toNat : Int) = 43 ∨ ((s.getD (nameLen s) 0).toNat : Int) = 45 := .inl h43
              conv => whnf
              repeat (first | ((with_reducible first | apply ga | apply gb | apply gc | apply gd | apply ge | apply gf | apply gg | apply gh | apply gi | apply gj); conv => whnf) | (refine ⟨⟨rfl, rfl, nle rfl, nle rfl⟩, ?_⟩; conv => whnf) | fail)
              refine ⟨⟨by unfold inI64; omega⟩, ?_⟩
              conv => whnf
              repeat (first | ((with_reducible first | apply ga | apply gb | apply gc | apply gd | apply ge | apply gf | apply gg | apply gh | apply gi | apply gj); conv => whnf) | (refine ⟨⟨rfl, rfl, nle rfl, nle rfl⟩, ?_⟩; conv => whnf) | fail)
              refine ⟨⟨by omega, by omega⟩, ?_⟩
              conv => whnf
              repeat (first | ((with_reducible first | apply ga | apply gb | apply gc | apply gd | apply ge | apply gf | apply gg | apply gh | apply gi | apply gj); conv => whnf) | (refine ⟨⟨rfl, rfl, nle rfl, nle rfl⟩, ?_⟩; conv => whnf) | fail)
              rw [hd]
              refine ⟨fun hne => ?_, fun hne => ?_⟩ <;> replace hne := nm hne <;> (try simp only [Int.toNat_zero] at hne) <;> (try simp only [Int.toNat_one] at hne)
              · conv => whnf
                repeat (first | ((with_reducible first | apply ga | apply gb | apply gc | apply gd | apply ge | apply gf | apply gg | apply gh | apply gi | apply gj); conv => whnf) | (refine ⟨⟨rfl, rfl, nle rfl, nle rfl⟩, ?_⟩; conv => whnf) | fail)
                refine ⟨⟨by omega, by cases hq : s.drop (nameLen s + 1) with | nil => exact absurd hq hne | cons _ _ => simp⟩, ?_⟩
                conv => whnf
                repeat (first | ((with_reducible first | apply ga | apply gb | apply gc | apply gd | apply ge | apply gf | apply gg | apply gh | apply gi | apply gj); conv => whnf) | (refine ⟨⟨rfl, rfl, nle rfl, nle rfl⟩, ?_⟩; conv => whnf) | fail)
                refine ⟨fun hm0 => ?_, fun hm0 => ?_⟩ <;> replace hm0 := nm hm0 <;> (try simp only [Int.toNat_zero] at hm0) <;> (try simp only [Int.toNat_one] at hm0)
                · have hm : [45].isPrefixOf (s.drop (nameLen s + 1)) = true := by
                    rw [pre1, decide_eq_true (by cases hq : s.drop (nameLen s + 1) with | nil => exact absurd hq hne | cons _ _ => simp), Bool.true_and]; exact beq_iff_eq.mpr hm0
                  conv => whnf
                  repeat (first | ((with_reducible first | apply ga | apply gb | apply gc | apply gd | apply ge | apply gf | apply gg | apply gh | apply gi | apply gj); conv => whnf) | (refine ⟨⟨rfl, rfl, nle rfl, nle rfl⟩, ?_⟩; conv => whnf) | fail)
                  refine ⟨⟨by unfold inI64; omega⟩, ?_⟩
                  conv => whnf
                  repeat (first | ((with_reducible first | apply ga | apply gb | apply gc | apply gd | apply ge | apply gf | apply gg | apply gh | apply gi | apply gj); conv => whnf) | (refine ⟨⟨rfl, rfl, nle rfl, nle rfl⟩, ?_⟩; conv => whnf) | fail)
                  have hO : opnd s = (az, ((nameLen s : Int) + 1), 5) := by rw [opnd, if_neg hA, if_neg h8', if_neg he, if_pos hS, if_pos hm]
                  rw [hO]
                  exact done_tup [Arg.av az, i64 (((nameLen s : Int) + 1)), i64 5] [] rfl ⟨agg3 .same .same .same, .same, .same, trivial⟩
                · have hm : [45].isPrefixOf (s.drop (nameLen s + 1)) = false := by
                    rw [pre1, show ((((s.drop (nameLen s + 1)).getD 0 0).toNat : Int) == ((45 : UInt8).toNat : Int)) = false from beq_eq_false_iff_ne.mpr hm0, Bool.and_false]
                  conv => whnf
                  repeat (first | ((with_reducible first | apply ga | apply gb | apply gc | apply gd | apply ge | apply gf | apply gg | apply gh | apply gi | apply gj); conv => whnf) | (refine ⟨⟨rfl, rfl, nle rfl, nle rfl⟩, ?_⟩; conv => whnf) | fail)
                  have hm' : ¬ [45].isPrefixOf (s.drop (nameLen s + 1)) = true := by rw [hm]; simp
                  refine CallK.flat [] (f15 (s.drop (nameLen s + 1)) hr) ⟨.same, trivial⟩ rfl ?_
                  conv => whnf
                  repeat (first | ((with_reducible first | apply ga | apply gb | apply gc | apply gd | apply ge | apply gf | apply gg | apply gh | apply gi | apply gj); conv => whnf) | (refine ⟨⟨rfl, rfl, nle rfl, nle rfl⟩, ?_⟩; conv => whnf) | fail)
                  refine ⟨fun hn => ?_, fun hn => ?_⟩ <;> replace hn := nm hn <;> (try simp only [Int.toNat_zero] at hn) <;> (try simp only [Int.toNat_one] at hn)
                  · conv => whnf
                    repeat (first | ((with_reducible first | apply ga | apply gb | apply gc | apply gd | apply ge | apply gf | apply gg | apply gh | apply gi | apply gj); conv => whnf) | (refine ⟨⟨rfl, rfl, nle rfl, nle rfl⟩, ?_⟩; conv => whnf) | fail)
                    refine ⟨⟨by unfold inI64; omega⟩, ?_⟩
                    conv => whnf
                    repeat (first | ((with_reducible first | apply ga | apply gb | apply gc | apply gd | apply ge | apply gf | apply gg | apply gh | apply gi | apply gj); conv => whnf) | (refine ⟨⟨rfl, rfl, nle rfl, nle rfl⟩, ?_⟩; conv => whnf) | fail)
                    have hO : opnd s = (az, ((nameLen s : Int) + 1), (num (s.drop (nameLen s + 1))).2) := by rw [opnd, if_neg hA, if_neg h8', if_neg he, if_pos hS, if_neg hm', if_pos hn]
                    rw [hO]
                    exact done_tup [Arg.av az, i64 (((nameLen s : Int) + 1)), i64 ((num (s.drop (nameLen s + 1))).2)] [] rfl ⟨agg3 .same .same .same, .same, .same, trivial⟩
                  · conv => whnf
                    repeat (first | ((with_reducible first | apply ga | apply gb | apply gc | apply gd | apply ge | apply gf | apply gg | apply gh | apply gi | apply gj); conv => whnf) | (refine ⟨⟨rfl, rfl, nle rfl, nle rfl⟩, ?_⟩; conv => whnf) | fail)
                    refine ⟨⟨by omega, by omega⟩, ?_⟩
                    conv => whnf
                    repeat (first | ((with_reducible first | apply ga | apply gb | apply gc | apply gd | apply ge | apply gf | apply gg | apply gh | apply gi | apply gj); conv => whnf) | (refine ⟨⟨rfl, rfl, nle rfl, nle rfl⟩, ?_⟩; conv => whnf) | fail)
                    rw [show ((nameLen s : Int)).toNat = nameLen s from Int.toNat_natCast _]
                    refine ⟨fun h45x => ?_, fun h45x => ?_⟩ <;> replace h45x := nm h45x <;> (try simp only [Int.toNat_zero] at h45x) <;> (try simp only [Int.toNat_one] at h45x)
                    · exfalso; omega
                    · conv => whnf
                      repeat (first | ((with_reducible first | apply ga | apply gb | apply gc | apply gd | apply ge | apply gf | apply gg | apply gh | apply gi | apply gj); conv => whnf) | (refine ⟨⟨rfl, rfl, nle rfl, nle rfl⟩, ?_⟩; conv => whnf) | fail)
                      have hO : opnd s = (⟨2, s.take (nameLen s), (num (s.drop (nameLen s + 1))).1⟩, 0, 0) := by rw [opnd, if_neg hA, if_neg h8', if_neg he, if_pos hS, if_neg hm', if_neg (fun h => h hn), if_neg (by omega)]
                      rw [hO]
                      exact done_tup [Arg.av ⟨2, s.take (nameLen s), (num (s.drop (nameLen s + 1))).1⟩, i64 0, i64 0] [] rfl ⟨agg3 .same .same (.int (by dsimp only <;> omega)), .same, .same, trivial⟩
              · have hm : [45].isPrefixOf (s.drop (nameLen s + 1)) = false := by
                  rw [pre1, List.eq_nil_of_length_eq_zero (l := s.drop (nameLen s + 1)) (by cases hq : s.drop (nameLen s + 1) with | nil => rfl | cons _ _ => rw [hq] at hne; simp at hne)]; rfl
                conv => whnf
                repeat (first | ((with_reducible first | apply ga | apply gb | apply gc | apply gd | apply ge | apply gf | apply gg | apply gh | apply gi | apply gj); conv => whnf) | (refine ⟨⟨rfl, rfl, nle rfl, nle rfl⟩, ?_⟩; conv => whnf) | fail)
                have hm' : ¬ [45].isPrefixOf (s.drop (nameLen s + 1)) = true := by rw [hm]; simp
                refine CallK.flat [] (f15 (s.drop (nameLen s + 1)) hr) ⟨.same, trivial⟩ rfl ?_
                conv => whnf
                repeat (first | ((with_reducible first | apply ga | apply gb | apply gc | apply gd | apply ge | apply gf | apply gg | apply gh | apply gi | apply gj); conv => whnf) | (refine ⟨⟨rfl, rfl, nle rfl, nle rfl⟩, ?_⟩; conv => whnf) | fail)
                refine ⟨fun hn => ?_, fun hn => ?_⟩ <;> replace hn := nm hn <;> (try simp only [Int.toNat_zero] at hn) <;> (try simp only [Int.toNat_one] at hn)
                · conv => whnf
                  repeat (first | ((with_reducible first | apply ga | apply gb | apply gc | apply gd | apply ge | apply gf | apply gg | apply gh | apply gi | apply gj); conv => whnf) | (refine ⟨⟨rfl, rfl, nle rfl, nle rfl⟩, ?_⟩; conv => whnf) | fail)
                  refine ⟨⟨by unfold inI64; omega⟩, ?_⟩
                  conv => whnf
                  repeat (first | ((with_reducible first | apply ga | apply gb | apply gc | apply gd | apply ge | apply gf | apply gg | apply gh | apply gi | apply gj); conv => whnf) | (refine ⟨⟨rfl, rfl, nle rfl, nle rfl⟩, ?_⟩; conv => whnf) | fail)
                  have hO : opnd s = (az, ((nameLen s : Int) + 1), (num (s.drop (nameLen s + 1))).2) := by rw [opnd, if_neg hA, if_neg h8', if_neg he, if_pos hS, if_neg hm', if_pos hn]
                  rw [hO]
                  exact done_tup [Arg.av az, i64 (((nameLen s : Int) + 1)), i64 ((num (s.drop (nameLen s + 1))).2)] [] rfl ⟨agg3 .same .same .same, .same, .same, trivial⟩
                · conv => whnf
                  repeat (first | ((with_reducible first | apply ga | apply gb | apply gc | apply gd | apply ge | apply gf | apply gg | apply gh | apply gi | apply gj); conv => whnf) | (refine ⟨⟨rfl, rfl, nle rfl, nle rfl⟩, ?_⟩; conv => whnf) | fail)
                  refine ⟨⟨by omega, by omega⟩, ?_⟩
                  conv => whnf
                  repeat (first | ((with_reducible first | apply ga | apply gb | apply gc | apply gd | apply ge | apply gf | apply gg | apply gh | apply gi | apply gj); conv => whnf) | (refine ⟨⟨rfl, rfl, nle rfl, nle rfl⟩, ?_⟩; conv => whnf) | fail)
                  rw [show ((nameLen s : Int)).toNat = nameLen s from Int.toNat_natCast _]
                  refine ⟨fun h45x => ?_, fun h45x => ?_⟩ <;> replace h45x := nm h45x <;> (try simp only [Int.toNat_zero] at h45x) <;> (try simp only [Int.toNat_one] at h45x)
                  · exfalso; omega
                  · conv => whnf
                    repeat (first | ((with_reducible first | apply ga | apply gb | apply gc | apply gd | apply ge | apply gf | apply gg | apply gh | apply gi | apply gj); conv => whnf) | (refine ⟨⟨rfl, rfl, nle rfl, nle rfl⟩, ?_⟩; conv => whnf) | fail)
                    have hO : opnd s = (⟨2, s.take (nameLen s), (num (s.drop (nameLen s + 1))).1⟩, 0, 0) := by rw [opnd, if_neg hA, if_neg h8', if_neg he, if_pos hS, if_neg hm', if_neg (fun h => h hn), if_neg (by omega)]
                    rw [hO]
                    exact done_tup [Arg.av ⟨2, s.take (nameLen s), (num (s.drop (nameLen s + 1))).1⟩, i64 0, i64 0] [] rfl ⟨agg3 .same .same (.int (by dsimp only <;> omega)), .same, .same, trivial⟩
  · have hA : (s == [] || !(letter (s.getD 0 0))) = true := by rw [h0]; rfl
    conv => whnf
    repeat (first | ((with_reducible first | apply ga | apply gb | apply gc | apply gd | apply ge | apply gf | apply gg | apply gh | apply gi | apply gj); conv => whnf) | (refine ⟨⟨rfl, rfl, nle rfl, nle rfl⟩, ?_⟩; conv => whnf) | fail)
    refine CallK.flat [] (f15 s hs) ⟨.same, trivial⟩ rfl ?_
    conv => whnf
    repeat (first | ((with_reducible first | apply ga | apply gb | apply gc | apply gd | apply ge | apply gf | apply gg | apply gh | apply gi | apply gj); conv => whnf) | (refine ⟨⟨rfl, rfl, nle rfl, nle rfl⟩, ?_⟩; conv => whnf) | fail)
    refine ⟨fun he => ?_, fun he => ?_⟩ <;> replace he := nm he <;> (try simp only [Int.toNat_zero] at he) <;> (try simp only [Int.toNat_one] at he)
    · conv => whnf
      repeat (first | ((with_reducible first | apply ga | apply gb | apply gc | apply gd | apply ge | apply gf | apply gg | apply gh | apply gi | apply gj); conv => whnf) | (refine ⟨⟨rfl, rfl, nle rfl, nle rfl⟩, ?_⟩; conv => whnf) | fail)
      have hO : opnd s = (az, 0, (num s).2) := by rw [opnd, if_pos hA, if_pos he]
      rw [hO]
      exact done_tup [Arg.av az, i64 0, i64 ((num s).2)] [] rfl ⟨agg3 .same .same .same, .same, .same, trivial⟩
    · conv => whnf
      repeat (first | ((with_reducible first | apply ga | apply gb | apply gc | apply gd | apply ge | apply gf | apply gg | apply gh | apply gi | apply gj); conv => whnf) | (refine ⟨⟨rfl, rfl, nle rfl, nle rfl⟩, ?_⟩; conv => whnf) | fail)
      have hO : opnd s = (⟨1, [], (num s).1⟩, 0, 0) := by rw [opnd, if_pos hA, if_neg (fun h => h he)]
      rw [hO]
      exact done_tup [Arg.av ⟨1, [], (num s).1⟩, i64 0, i64 0] [] rfl ⟨agg3 .same .same .same, .same, .same, trivial⟩
end Go.Proofs.YtdoeiccibhabcaaDoor

namespace Go.Proofs.YtdoeiccibhabcaaDoor
open Go Go.AM
attribute [local irreducible] AWP CallK PureCall SubS HeapCall
def cutT (c : UInt8) (s : List UInt8) : AV := tupV [st (bef c s), st (aft c s), bb (s.contains c)]
theorem f54 (s : List UInt8) (hs : B62 s) (c : UInt8) : PureCall Tryd.prog 54 [st s, st [c]] (cutT c s) := by
  unfold B62 at hs
  refine PureCall.run tab_ok mixed (by kernel_rfl) Tryd.func54 rfl rfl rfl ?_
  conv => whnf
  repeat (first | ((with_reducible first | apply ga | apply gb | apply gc | apply gd | apply ge | apply gf | apply gg | apply gh | apply gi | apply gj); conv => whnf) | (refine ⟨⟨rfl, rfl, nle rfl, nle rfl⟩, ?_⟩; conv => whnf) | fail)
  refine CallK.flat [] (f60 s c) ⟨.same, .same, trivial⟩ rfl ?_
  conv => whnf
  repeat (first | ((with_reducible first | apply ga | apply gb | apply gc | apply gd | apply ge | apply gf | apply gg | apply gh | apply gi | apply gj); conv => whnf) | (refine ⟨⟨rfl, rfl, nle rfl, nle rfl⟩, ?_⟩; conv => whnf) | fail)
  refine ⟨fun hi => ?_, fun hi => ?_⟩ <;> replace hi := nm hi <;> (try simp only [Int.toNat_zero] at hi) <;> (try simp only [Int.toNat_one] at hi)
  · conv => whnf
    repeat (first | ((with_reducible first | apply ga | apply gb | apply gc | apply gd | apply ge | apply gf | apply gg | apply gh | apply gi | apply gj); conv => whnf) | (refine ⟨⟨rfl, rfl, nle rfl, nle rfl⟩, ?_⟩; conv => whnf) | fail)
    rcases index_bef c s with ⟨h1, _⟩ | ⟨h1, h2, h3, h4, h5⟩
    · omega
    · refine ⟨⟨by omega, by omega⟩, ?_⟩
      conv => whnf
      repeat (first | ((with_reducible first | apply ga | apply gb | apply gc | apply gd | apply ge | apply gf | apply gg | apply gh | apply gi | apply gj); conv => whnf) | (refine ⟨⟨rfl, rfl, nle rfl, nle rfl⟩, ?_⟩; conv => whnf) | fail)
      refine ⟨⟨by unfold inI64; simp only [List.length_singleton]; omega⟩, ?_⟩
      conv => whnf
      repeat (first | ((with_reducible first | apply ga | apply gb | apply gc | apply gd | apply ge | apply gf | apply gg | apply gh | apply gi | apply gj); conv => whnf) | (refine ⟨⟨rfl, rfl, nle rfl, nle rfl⟩, ?_⟩; conv => whnf) | fail)
      refine ⟨⟨by simp only [List.length_singleton]; omega, by simp only [List.length_singleton]; omega⟩, ?_⟩
      conv => whnf
      repeat (first | ((with_reducible first | apply ga | apply gb | apply gc | apply gd | apply ge | apply gf | apply gg | apply gh | apply gi | apply gj); conv => whnf) | (refine ⟨⟨rfl, rfl, nle rfl, nle rfl⟩, ?_⟩; conv => whnf) | fail)
      refine ⟨rfl, ?_⟩
      conv => whnf
      repeat (first | ((with_reducible first | apply ga | apply gb | apply gc | apply gd | apply ge | apply gf | apply gg | apply gh | apply gi | apply gj); conv => whnf) | (refine ⟨⟨rfl, rfl, nle rfl, nle rfl⟩, ?_⟩; conv => whnf) | fail)
      have e1 : (Lib.indexByte s c).toNat = (bef c s).length := by omega
      have e2 : (Lib.indexByte s c + (([c] : List UInt8).length : Int)).toNat = (bef c s).length + 1 := by simp only [List.length_singleton]; omega
      have hE : cutT c s = tupV [st (s.take (Lib.indexByte s c).toNat), st (s.drop (Lib.indexByte s c + (([c] : List UInt8).length : Int)).toNat), bb true] := by
        unfold cutT; rw [e1, e2, h3, h4, h5]
      rw [hE]
      exact done_tup [_, _, _] [] rfl ⟨.same, .same, .same, trivial⟩
  · conv => whnf
    repeat (first | ((with_reducible first | apply ga | apply gb | apply gc | apply gd | apply ge | apply gf | apply gg | apply gh | apply gi | apply gj); conv => whnf) | (refine ⟨⟨rfl, rfl, nle rfl, nle rfl⟩, ?_⟩; conv => whnf) | fail)
    rcases index_bef c s with ⟨h1, h2, h3, h4⟩ | ⟨h1, _⟩
    · have hE : cutT c s = tupV [st s, st [], bb false] := by unfold cutT; rw [h2, h3, h4]
      rw [hE]
      exact done_tup [st s, st [], bb false] [] rfl ⟨.same, .same, .same, trivial⟩
    · omega
theorem f42 (s : List UInt8) (hs : B62 s) (c : UInt8) : PureCall Tryd.prog 42 [st s, st [c]] (cutT c s) := by
  refine PureCall.run tab_ok mixed (by kernel_rfl) Tryd.func42 rfl rfl rfl ?_
  conv => whnf
  repeat (first | ((with_reducible first | apply ga | apply gb | apply gc | apply gd | apply ge | apply gf | apply gg | apply gh | apply gi | apply gj); conv => whnf) | (refine ⟨⟨rfl, rfl, nle rfl, nle rfl⟩, ?_⟩; conv => whnf) | fail)
  refine CallK.flat [] (f54 s hs c) ⟨.same, .same, trivial⟩ rfl ?_
  conv => whnf
  repeat (first | ((with_reducible first | apply ga | apply gb | apply gc | apply gd | apply ge | apply gf | apply gg | apply gh | apply gi | apply gj); conv => whnf) | (refine ⟨⟨rfl, rfl, nle rfl, nle rfl⟩, ?_⟩; conv => whnf) | fail)
  exact done_tup [_, _, _] [] rfl ⟨.same, .same, .same, trivial⟩
/-- The fields of a statement, with their offsets: o is where s begins, cur the word before it. -/
def flds : Nat → List UInt8 → List UInt8 → List (Nat × List UInt8)
  | o, cur, [] => if cur == [] then [] else [(o - cur.length, cur)]
  | o, cur, c :: s => if blank c then (if cur == [] then flds (o + 1) [] s else (o - cur.length, cur) :: flds (o + 1) [] s) else flds (o + 1) (cur ++ [c]) s
def word (s : List UInt8) : List UInt8 := s.takeWhile (fun c => !blank c)
theorem flds_word : ∀ (s : List UInt8) (o : Nat) (cur : List UInt8), flds o cur s = flds (o + (word s).length) (cur ++ word s) (s.drop (word s).length)
  | [], o, cur => by simp [word]
  | c :: s, o, cur => by
    cases hb : blank c with
    | true => simp [word, hb]
    | false =>
      have hw : word (c :: s) = c :: word s := by simp [word, hb]
      rw [hw, List.length_cons, List.drop_succ_cons]
      have : flds o cur (c :: s) = flds (o + 1) (cur ++ [c]) s := by simp [flds, hb]
      rw [this, flds_word s]
      congr 1
      · omega
      · simp
/-- From i on. -/
def fl (s : List UInt8) (i : Nat) : List (Nat × List UInt8) := flds i [] (s.drop i)
theorem fl_end {s : List UInt8} {i : Nat} (h : s.length ≤ i) : fl s i = [] := by unfold fl; rw [List.drop_eq_nil_of_le h]; rfl
theorem fl_step {s : List UInt8} {i k : Nat} (hi : i < s.length) (hk : k = i + (word (s.drop i)).length) :
    fl s i = (if i < k then [(i, (s.take k).drop i)] else []) ++ fl s (k + 1) := by
  have hw : (s.drop i).take (word (s.drop i)).length = word (s.drop i) := (List.prefix_iff_eq_take.mp (List.takeWhile_prefix _)).symm
  have hsub : (s.take k).drop i = word (s.drop i) := by
    rw [List.drop_take, show k - i = (word (s.drop i)).length by omega, hw]
  have hlen : (word (s.drop i)).length ≤ s.length - i := by have := tw_le (p := fun c => !blank c) (s.drop i); simpa [word] using this
  unfold fl
  rw [flds_word (s.drop i) i [], List.nil_append, List.drop_drop, hsub, show i + (word (s.drop i)).length = k by omega]
  by_cases hkl : k < s.length
  · rw [getD_drop hkl]
    have hbl : blank (s.getD k 0) = true := by
      have := tw_end (p := fun c => !blank c) (s := s.drop i) (by show (word (s.drop i)).length < _; simp; omega)
      simp only [Bool.not_eq_false'] at this
      rw [show (s.drop i).getD ((s.drop i).takeWhile (fun c => !blank c)).length 0 = s.getD k 0 by
        rw [List.getD_eq_getElem?_getD, List.getElem?_drop, List.getD_eq_getElem?_getD]; subst hk; rfl] at this
      exact this
    by_cases hik : i < k
    · have hne : (word (s.drop i) == []) = false := by
        cases hq : word (s.drop i) with
        | nil => rw [hq] at hk; simp at hk; omega
        | cons _ _ => rfl
      simp only [flds, hbl, if_true, hne, if_pos hik, Bool.false_eq_true, if_false]
      rw [show k - (word (s.drop i)).length = i by omega]
      rfl
    · have hne : word (s.drop i) = [] := List.eq_nil_of_length_eq_zero (by omega)
      simp only [flds, hbl, if_true, hne, if_neg hik, List.nil_append]
      rfl
  · rw [show s.drop k = [] from List.drop_eq_nil_of_le (by omega), show s.drop (k + 1) = [] from List.drop_eq_nil_of_le (by omega)]
    by_cases hik : i < k
    · have hne : (word (s.drop i) == []) = false := by
        cases hq : word (s.drop i) with
        | nil => rw [hq] at hk; simp at hk; omega
        | cons _ _ => rfl
      simp only [flds, hne, if_pos hik, Bool.false_eq_true, if_false]
      rw [show k - (word (s.drop i)).length = i by omega]
      rfl
    · have hne : word (s.drop i) = [] := List.eq_nil_of_length_eq_zero (by omega)
      simp only [flds, hne, if_neg hik, List.nil_append]
      rfl
def logF (l : List (Nat × List UInt8)) : List (List AV) := l.map fun p => [i64 p.1, st p.2]
theorem logF_app (l m : List (Nat × List UInt8)) : logF (l ++ m) = logF l ++ logF m := by simp [logF]
def fldsF (s : List UInt8) : AV := .func (.func 55) 0 (fun _ => .nilS) 1 (getL [.rptr 1 fun _ => .str s])
theorem f44 (s : List UInt8) : PureCall Tryd.prog 44 [st s] (fldsF s) := by
  refine PureCall.run tab_ok mixed (by kernel_rfl) Tryd.func44 rfl rfl rfl ?_
  conv => whnf
  repeat (first | ((with_reducible first | apply ga | apply gb | apply gc | apply gd | apply ge | apply gf | apply gg | apply gh | apply gi | apply gj); conv => whnf) | (refine ⟨⟨rfl, rfl, nle rfl, nle rfl⟩, ?_⟩; conv => whnf) | fail)
  refine ⟨[1], .func _ _ _ _ _ _ _ (fun i hi => absurd hi (Nat.not_lt_zero i)) fun i hi => ?_⟩
  match i with
  | 0 => exact .frzp _ _ _ _ _ _ _ _ rfl rfl rfl rfl (Nat.le_refl _) (Nat.le_refl _) fun j _ => .same
theorem logF_prefix {l m : List (Nat × List UInt8)} (h : l <+: m) : logF l <+: logF m := List.IsPrefix.map _ h
def yl (l : Nat) : AV := .func (.yield l) 0 (fun _ => .nilS) 0 (fun _ => .nilS)
theorem yl_le {H : Heap} {B : List Nat} {U : List (Nat × Nat)} {l : Nat} : VLe H B U (yl l) (yl l) := .func _ _ _ _ _ _ _ (fun i hi => absurd hi (Nat.not_lt_zero i)) (fun i hi => absurd hi (Nat.not_lt_zero i))
theorem word_in {s : List UInt8} {i j : Nat} (h1 : i ≤ j) (h2 : j < i + (word (s.drop i)).length) : blank (s.getD j 0) = false := by
  have := (tw_lt (p := fun c => !blank c) (s := s.drop i) (i := j - i) (by show _ < (word (s.drop i)).length; omega)).2
  rw [List.getD_eq_getElem?_getD, List.getElem?_drop, show i + (j - i) = j by omega, ← List.getD_eq_getElem?_getD] at this
  simpa using this
theorem word_end {s : List UInt8} {i k : Nat} (hk : k = i + (word (s.drop i)).length) (h : k < s.length) : blank (s.getD k 0) = true := by
  have := tw_end (p := fun c => !blank c) (s := s.drop i) (by show (word (s.drop i)).length < _; simp; omega)
  rw [List.getD_eq_getElem?_getD, List.getElem?_drop, show i + ((s.drop i).takeWhile (fun c => !blank c)).length = k from hk.symm, ← List.getD_eq_getElem?_getD] at this
  simpa using this
theorem f55 (s : List UInt8) (hs : B62 s) : IterCall Tryd.prog 55 [.rptr 1 fun _ => .str s] (fun p => p <+: logF (fl s 0)) (fun p => p = logF (fl s 0)) := by
  unfold B62 at hs
  refine IterCall.run tab_ok mixed (by kernel_rfl) Tryd.func55 rfl rfl rfl fun l => ?_
  conv => whnf
  repeat (first | ((with_reducible first | apply ga | apply gb | apply gc | apply gd | apply ge | apply gf | apply gg | apply gh | apply gi | apply gj); conv => whnf) | (refine ⟨⟨rfl, rfl, nle rfl, nle rfl⟩, ?_⟩; conv => whnf) | fail)
  refine ex_loop tab_ok mixed (fun x : Nat × List (Nat × List UInt8) => x.1 ≤ s.length + 1 ∧ x.2 ++ fl s x.1 = fl s 0) (fun x => mkStX 38 [(0, yl l), (1, .rptr 1 fun _ => .str s), (3, i64 x.1)] [] ⟨some l, fun p => p <+: logF (fl s 0), logF x.2, false, fun _ => none, false⟩) (fun x => s.length + 2 - x.1) (0, []) ⟨Nat.zero_le _, rfl⟩ (SubS.mkX [] rfl ⟨⟨_, rfl, yl_le⟩, ⟨_, rfl, .rptr _ _ _ fun i _ => .refl _⟩, ⟨_, rfl, .same⟩, trivial⟩ trivial ⟨rfl, rfl, rfl, rfl, rfl, fun t v h => by cases h⟩) ?_
  rintro ⟨i, L⟩ ⟨hi, hL⟩
  dsimp only at hi hL ⊢
  conv => whnf
  repeat (first | ((with_reducible first | apply ga | apply gb | apply gc | apply gd | apply ge | apply gf | apply gg | apply gh | apply gi | apply gj); conv => whnf) | (refine ⟨⟨rfl, rfl, nle rfl, nle rfl⟩, ?_⟩; conv => whnf) | fail)
  refine ⟨⟨Nat.le_refl _⟩, ?_⟩
  conv => whnf
  repeat (first | ((with_reducible first | apply ga | apply gb | apply gc | apply gd | apply ge | apply gf | apply gg | apply gh | apply gi | apply gj); conv => whnf) | (refine ⟨⟨rfl, rfl, nle rfl, nle rfl⟩, ?_⟩; conv => whnf) | fail)
  refine ⟨fun hc => ?_, fun hc => ?_⟩ <;> replace hc := nm hc <;> (try simp only [Int.toNat_zero] at hc) <;> (try simp only [Int.toNat_one] at hc)
  · have hlt : i < s.length := by omega
    obtain ⟨k, hk⟩ : ∃ k, k = i + (word (s.drop i)).length := ⟨_, rfl⟩
    have hwl : (word (s.drop i)).length ≤ (s.drop i).length := tw_le _
    have hkl : k ≤ s.length := by simp at hwl; omega
    have hstep := fl_step hlt hk
    conv => whnf
    repeat (first | ((with_reducible first | apply ga | apply gb | apply gc | apply gd | apply ge | apply gf | apply gg | apply gh | apply gi | apply gj); conv => whnf) | (refine ⟨⟨rfl, rfl, nle rfl, nle rfl⟩, ?_⟩; conv => whnf) | fail)
    refine ex_loop tab_ok mixed (fun j => i ≤ j ∧ j ≤ k) (fun j : Nat => mkStX 38 [(0, yl l), (1, .rptr 1 fun _ => .str s), (3, i64 i), (4, i64 j)] [] ⟨some l, fun p => p <+: logF (fl s 0), logF L, false, fun _ => none, false⟩) (fun j => k - j) i ⟨Nat.le_refl _, by omega⟩ (SubS.mkX [] rfl ⟨⟨_, rfl, yl_le⟩, ⟨_, rfl, .rptr _ _ _ fun i _ => .refl _⟩, ⟨_, rfl, .same⟩, ⟨_, rfl, .same⟩, trivial⟩ trivial ⟨rfl, rfl, rfl, rfl, rfl, fun t v h => by cases h⟩) ?_
    rintro j ⟨hij, hjk⟩
    conv => whnf
    repeat (first | ((with_reducible first | apply ga | apply gb | apply gc | apply gd | apply ge | apply gf | apply gg | apply gh | apply gi | apply gj); conv => whnf) | (refine ⟨⟨rfl, rfl, nle rfl, nle rfl⟩, ?_⟩; conv => whnf) | fail)
    refine ⟨⟨Nat.le_refl _⟩, ?_⟩
    conv => whnf
    repeat (first | ((with_reducible first | apply ga | apply gb | apply gc | apply gd | apply ge | apply gf | apply gg | apply gh | apply gi | apply gj); conv => whnf) | (refine ⟨⟨rfl, rfl, nle rfl, nle rfl⟩, ?_⟩; conv => whnf) | fail)
    refine ⟨fun hj => ?_, fun hj => ?_⟩ <;> replace hj := nm hj <;> (try simp only [Int.toNat_zero] at hj) <;> (try simp only [Int.toNat_one] at hj)
    · conv => whnf
      repeat (first | ((with_reducible first | apply ga | apply gb | apply gc | apply gd | apply ge | apply gf | apply gg | apply gh | apply gi | apply gj); conv => whnf) | (refine ⟨⟨rfl, rfl, nle rfl, nle rfl⟩, ?_⟩; conv => whnf) | fail)
      refine ⟨⟨Nat.le_refl _⟩, ?_⟩
      conv => whnf
      repeat (first | ((with_reducible first | apply ga | apply gb | apply gc | apply gd | apply ge | apply gf | apply gg | apply gh | apply gi | apply gj); conv => whnf) | (refine ⟨⟨rfl, rfl, nle rfl, nle rfl⟩, ?_⟩; conv => whnf) | fail)
      refine ⟨⟨by omega, by omega⟩, ?_⟩
      conv => whnf
      repeat (first | ((with_reducible first | apply ga | apply gb | apply gc | apply gd | apply ge | apply gf | apply gg | apply gh | apply gi | apply gj); conv => whnf) | (refine ⟨⟨rfl, rfl, nle rfl, nle rfl⟩, ?_⟩; conv => whnf) | fail)
      rw [show ((j : Int)).toNat = j from Int.toNat_natCast _]
      refine CallK.flat [] (f43 (s.getD j 0)) ⟨.same, trivial⟩ rfl ?_
      conv => whnf
      repeat (first | ((with_reducible first | apply ga | apply gb | apply gc | apply gd | apply ge | apply gf | apply gg | apply gh | apply gi | apply gj); conv => whnf) | (refine ⟨⟨rfl, rfl, nle rfl, nle rfl⟩, ?_⟩; conv => whnf) | fail)
      refine ⟨fun hb => ?_, fun hb => ?_⟩ <;> replace hb := nm hb <;> (try simp only [Int.toNat_zero] at hb) <;> (try simp only [Int.toNat_one] at hb)
      · have hjk2 : j < k := by
          rcases Nat.lt_or_ge j k with h | h
          · exact h
          · obtain rfl : j = k := by omega
            rw [word_end hk (by omega)] at hb; cases hb
        conv => whnf
        repeat (first | ((with_reducible first | apply ga | apply gb | apply gc | apply gd | apply ge | apply gf | apply gg | apply gh | apply gi | apply gj); conv => whnf) | (refine ⟨⟨rfl, rfl, nle rfl, nle rfl⟩, ?_⟩; conv => whnf) | fail)
        refine ⟨⟨by unfold inI64; omega⟩, ?_⟩
        conv => whnf
        repeat (first | ((with_reducible first | apply ga | apply gb | apply gc | apply gd | apply ge | apply gf | apply gg | apply gh | apply gi | apply gj); conv => whnf) | (refine ⟨⟨rfl, rfl, nle rfl, nle rfl⟩, ?_⟩; conv => whnf) | fail)
        exact ⟨j + 1, ⟨by omega, by omega⟩, SubS.mkX [] rfl ⟨⟨_, rfl, yl_le⟩, ⟨_, rfl, .rptr _ _ _ fun i _ => .refl _⟩, ⟨_, rfl, .same⟩, ⟨_, rfl, .same⟩, trivial⟩ trivial ⟨rfl, rfl, rfl, rfl, rfl, fun t v h => by cases h⟩, by omega⟩
      · obtain rfl : k = j := by
          rcases Nat.lt_or_ge j k with h | h
          · rw [word_in hij (by omega)] at hb; cases hb
          · omega
        clear hb hj hij hjk
        conv => whnf
        repeat (first | ((with_reducible first | apply ga | apply gb | apply gc | apply gd | apply ge | apply gf | apply gg | apply gh | apply gi | apply gj); conv => whnf) | (refine ⟨⟨rfl, rfl, nle rfl, nle rfl⟩, ?_⟩; conv => whnf) | fail)
        refine ⟨fun hki => ?_, fun hki => ?_⟩ <;> replace hki := nm hki <;> (try simp only [Int.toNat_zero] at hki) <;> (try simp only [Int.toNat_one] at hki)
        · conv => whnf
          repeat (first | ((with_reducible first | apply ga | apply gb | apply gc | apply gd | apply ge | apply gf | apply gg | apply gh | apply gi | apply gj); conv => whnf) | (refine ⟨⟨rfl, rfl, nle rfl, nle rfl⟩, ?_⟩; conv => whnf) | fail)
          refine ⟨⟨Nat.le_refl _⟩, ?_⟩
          conv => whnf
          repeat (first | ((with_reducible first | apply ga | apply gb | apply gc | apply gd | apply ge | apply gf | apply gg | apply gh | apply gi | apply gj); conv => whnf) | (refine ⟨⟨rfl, rfl, nle rfl, nle rfl⟩, ?_⟩; conv => whnf) | fail)
          refine ⟨⟨by omega, by omega, by omega⟩, ?_⟩
          conv => whnf
          repeat (first | ((with_reducible first | apply ga | apply gb | apply gc | apply gd | apply ge | apply gf | apply gg | apply gh | apply gi | apply gj); conv => whnf) | (refine ⟨⟨rfl, rfl, nle rfl, nle rfl⟩, ?_⟩; conv => whnf) | fail)
          have e2 : (s.take (k : Int).toNat).drop (i : Int).toNat = (s.take k).drop i := by rw [Int.toNat_natCast, Int.toNat_natCast]
          rw [if_pos (by omega)] at hstep
          refine ⟨⟨rfl, rfl, ?_, rfl⟩, fun stop => ?_⟩
          · show logF L ++ [[i64 i, st ((s.take (k : Int).toNat).drop (i : Int).toNat)]] <+: logF (fl s 0)
            rw [e2, ← hL, hstep]
            exact ⟨logF (fl s (k + 1)), by simp [logF]⟩
          conv => whnf
          repeat (first | ((with_reducible first | apply ga | apply gb | apply gc | apply gd | apply ge | apply gf | apply gg | apply gh | apply gi | apply gj); conv => whnf) | (refine ⟨⟨rfl, rfl, nle rfl, nle rfl⟩, ?_⟩; conv => whnf) | fail)
          refine ⟨fun h1 => ?_, fun h1 => ?_⟩
          · conv => whnf
            repeat (first | ((with_reducible first | apply ga | apply gb | apply gc | apply gd | apply ge | apply gf | apply gg | apply gh | apply gi | apply gj); conv => whnf) | (refine ⟨⟨rfl, rfl, nle rfl, nle rfl⟩, ?_⟩; conv => whnf) | fail)
            intro h
            exact absurd (show stop = false from h) (by cases stop <;> simp_all)
          obtain rfl : stop = false := by cases stop <;> simp_all
          conv => whnf
          repeat (first | ((with_reducible first | apply ga | apply gb | apply gc | apply gd | apply ge | apply gf | apply gg | apply gh | apply gi | apply gj); conv => whnf) | (refine ⟨⟨rfl, rfl, nle rfl, nle rfl⟩, ?_⟩; conv => whnf) | fail)
          refine ⟨⟨by unfold inI64; omega⟩, ?_⟩
          conv => whnf
          repeat (first | ((with_reducible first | apply ga | apply gb | apply gc | apply gd | apply ge | apply gf | apply gg | apply gh | apply gi | apply gj); conv => whnf) | (refine ⟨⟨rfl, rfl, nle rfl, nle rfl⟩, ?_⟩; conv => whnf) | fail)
          refine ⟨(k + 1, L ++ [(i, (s.take k).drop i)]), ⟨by dsimp only; omega, by dsimp only; rw [← hL, hstep, List.append_assoc]⟩, SubS.mkX [] rfl ⟨⟨_, rfl, yl_le⟩, ⟨_, rfl, .rptr _ _ _ fun i _ => .refl _⟩, ⟨_, rfl, .same⟩, trivial⟩ trivial ⟨rfl, rfl, ?_, rfl, rfl, fun t v h => by cases h⟩, by dsimp only; omega⟩
          show logF (L ++ [(i, (s.take k).drop i)]) = logF L ++ [[i64 i, st ((s.take (k : Int).toNat).drop (i : Int).toNat)]]
          rw [e2, logF_app]; rfl
        · rw [if_neg (by omega), List.nil_append] at hstep
          conv => whnf
          repeat (first | ((with_reducible first | apply ga | apply gb | apply gc | apply gd | apply ge | apply gf | apply gg | apply gh | apply gi | apply gj); conv => whnf) | (refine ⟨⟨rfl, rfl, nle rfl, nle rfl⟩, ?_⟩; conv => whnf) | fail)
          refine ⟨⟨by unfold inI64; omega⟩, ?_⟩
          conv => whnf
          repeat (first | ((with_reducible first | apply ga | apply gb | apply gc | apply gd | apply ge | apply gf | apply gg | apply gh | apply gi | apply gj); conv => whnf) | (refine ⟨⟨rfl, rfl, nle rfl, nle rfl⟩, ?_⟩; conv => whnf) | fail)
          exact ⟨(k + 1, L), ⟨by dsimp only; omega, by dsimp only; rw [← hL, hstep]⟩, SubS.mkX [] rfl ⟨⟨_, rfl, yl_le⟩, ⟨_, rfl, .rptr _ _ _ fun i _ => .refl _⟩, ⟨_, rfl, .same⟩, trivial⟩ trivial ⟨rfl, rfl, rfl, rfl, rfl, fun t v h => by cases h⟩, by dsimp only; omega⟩
    · obtain rfl : k = j := by omega
      clear hj hij hjk
      conv => whnf
      repeat (first | ((with_reducible first | apply ga | apply gb | apply gc | apply gd | apply ge | apply gf | apply gg | apply gh | apply gi | apply gj); conv => whnf) | (refine ⟨⟨rfl, rfl, nle rfl, nle rfl⟩, ?_⟩; conv => whnf) | fail)
      refine ⟨fun hki => ?_, fun hki => ?_⟩ <;> replace hki := nm hki <;> (try simp only [Int.toNat_zero] at hki) <;> (try simp only [Int.toNat_one] at hki)
      · conv => whnf
        repeat (first | ((with_reducible first | apply ga | apply gb | apply gc | apply gd | apply ge | apply gf | apply gg | apply gh | apply gi | apply gj); conv => whnf) | (refine ⟨⟨rfl, rfl, nle rfl, nle rfl⟩, ?_⟩; conv => whnf) | fail)
        refine ⟨⟨Nat.le_refl _⟩, ?_⟩
        conv => whnf
        repeat (first | ((with_reducible first | apply ga | apply gb | apply gc | apply gd | apply ge | apply gf | apply gg | apply gh | apply gi | apply gj); conv => whnf) | (refine ⟨⟨rfl, rfl, nle rfl, nle rfl⟩, ?_⟩; conv => whnf) | fail)
        refine ⟨⟨by omega, by omega, by omega⟩, ?_⟩
        conv => whnf
        repeat (first | ((with_reducible first | apply ga | apply gb | apply gc | apply gd | apply ge | apply gf | apply gg | apply gh | apply gi | apply gj); conv => whnf) | (refine ⟨⟨rfl, rfl, nle rfl, nle rfl⟩, ?_⟩; conv => whnf) | fail)
        have e2 : (s.take (k : Int).toNat).drop (i : Int).toNat = (s.take k).drop i := by rw [Int.toNat_natCast, Int.toNat_natCast]
        rw [if_pos (by omega)] at hstep
        refine ⟨⟨rfl, rfl, ?_, rfl⟩, fun stop => ?_⟩
        · show logF L ++ [[i64 i, st ((s.take (k : Int).toNat).drop (i : Int).toNat)]] <+: logF (fl s 0)
          rw [e2, ← hL, hstep]
          exact ⟨logF (fl s (k + 1)), by simp [logF]⟩
        conv => whnf
        repeat (first | ((with_reducible first | apply ga | apply gb | apply gc | apply gd | apply ge | apply gf | apply gg | apply gh | apply gi | apply gj); conv => whnf) | (refine ⟨⟨rfl, rfl, nle rfl, nle rfl⟩, ?_⟩; conv => whnf) | fail)
        refine ⟨fun h1 => ?_, fun h1 => ?_⟩
        · conv => whnf
          repeat (first | ((with_reducible first | apply ga | apply gb | apply gc | apply gd | apply ge | apply gf | apply gg | apply gh | apply gi | apply gj); conv => whnf) | (refine ⟨⟨rfl, rfl, nle rfl, nle rfl⟩, ?_⟩; conv => whnf) | fail)
          intro h
          exact absurd (show stop = false from h) (by cases stop <;> simp_all)
        obtain rfl : stop = false := by cases stop <;> simp_all
        conv => whnf
        repeat (first | ((with_reducible first | apply ga | apply gb | apply gc | apply gd | apply ge | apply gf | apply gg | apply gh | apply gi | apply gj); conv => whnf) | (refine ⟨⟨rfl, rfl, nle rfl, nle rfl⟩, ?_⟩; conv => whnf) | fail)
        refine ⟨⟨by unfold inI64; omega⟩, ?_⟩
        conv => whnf
        repeat (first | ((with_reducible first | apply ga | apply gb | apply gc | apply gd | apply ge | apply gf | apply gg | apply gh | apply gi | apply gj); conv => whnf) | (refine ⟨⟨rfl, rfl, nle rfl, nle rfl⟩, ?_⟩; conv => whnf) | fail)
        refine ⟨(k + 1, L ++ [(i, (s.take k).drop i)]), ⟨by dsimp only; omega, by dsimp only; rw [← hL, hstep, List.append_assoc]⟩, SubS.mkX [] rfl ⟨⟨_, rfl, yl_le⟩, ⟨_, rfl, .rptr _ _ _ fun i _ => .refl _⟩, ⟨_, rfl, .same⟩, trivial⟩ trivial ⟨rfl, rfl, ?_, rfl, rfl, fun t v h => by cases h⟩, by dsimp only; omega⟩
        show logF (L ++ [(i, (s.take k).drop i)]) = logF L ++ [[i64 i, st ((s.take (k : Int).toNat).drop (i : Int).toNat)]]
        rw [e2, logF_app]; rfl
      · rw [if_neg (by omega), List.nil_append] at hstep
        conv => whnf
        repeat (first | ((with_reducible first | apply ga | apply gb | apply gc | apply gd | apply ge | apply gf | apply gg | apply gh | apply gi | apply gj); conv => whnf) | (refine ⟨⟨rfl, rfl, nle rfl, nle rfl⟩, ?_⟩; conv => whnf) | fail)
        refine ⟨⟨by unfold inI64; omega⟩, ?_⟩
        conv => whnf
        repeat (first | ((with_reducible first | apply ga | apply gb | apply gc | apply gd | apply ge | apply gf | apply gg | apply gh | apply gi | apply gj); conv => whnf) | (refine ⟨⟨rfl, rfl, nle rfl, nle rfl⟩, ?_⟩; conv => whnf) | fail)
        exact ⟨(k + 1, L), ⟨by dsimp only; omega, by dsimp only; rw [← hL, hstep]⟩, SubS.mkX [] rfl ⟨⟨_, rfl, yl_le⟩, ⟨_, rfl, .rptr _ _ _ fun i _ => .refl _⟩, ⟨_, rfl, .same⟩, trivial⟩ trivial ⟨rfl, rfl, rfl, rfl, rfl, fun t v h => by cases h⟩, by dsimp only; omega⟩
  · rw [fl_end (by omega), List.append_nil] at hL
    conv => whnf
    repeat (first | ((with_reducible first | apply ga | apply gb | apply gc | apply gd | apply ge | apply gf | apply gg | apply gh | apply gi | apply gj); conv => whnf) | (refine ⟨⟨rfl, rfl, nle rfl, nle rfl⟩, ?_⟩; conv => whnf) | fail)
    intro _
    show logF L = _
    rw [hL]
end Go.Proofs.YtdoeiccibhabcaaDoor
