/- Part of the proof: what the functions that the law calls compute (5). -/
import Derived.Test.YtioccpodnkllfaaV4
namespace Go.Proofs.Ytioccpodnkllfaa
open Go Go.AM
attribute [local irreducible] AWP CallK PureCall SubS HeapCall HeapCallP HeapCallK
theorem f5 (l : List BankR) (h : BsB l) : PureCall Try.prog 5 [.pv (banksP l)] (bb true) := by
  have hl := h.1
  refine PureCall.run tab_ok mixed (by kernel_rfl) Try.func5 rfl rfl rfl ?_
  conv => whnf
  repeat (first | ((with_reducible first | apply ga | apply gb | apply gc | apply gd | apply ge | apply gf | apply gg | apply gh | apply gi | apply gj); conv => whnf) | (refine ⟨⟨rfl, rfl, nle rfl, nle rfl⟩, ?_⟩; conv => whnf) | fail)
  refine ⟨fun hc => ?_, fun hc => ?_⟩ <;> replace hc := nm hc <;> (try rw [Int.toNat_zero] at hc) <;> (try rw [Int.toNat_one] at hc)
  · conv => whnf
    repeat (first | ((with_reducible first | apply ga | apply gb | apply gc | apply gd | apply ge | apply gf | apply gg | apply gh | apply gi | apply gj); conv => whnf) | (refine ⟨⟨rfl, rfl, nle rfl, nle rfl⟩, ?_⟩; conv => whnf) | fail)
    refine CallK.flat [] f15 trivial rfl ?_
    conv => whnf
    repeat (first | ((with_reducible first | apply ga | apply gb | apply gc | apply gd | apply ge | apply gf | apply gg | apply gh | apply gi | apply gj); conv => whnf) | (refine ⟨⟨rfl, rfl, nle rfl, nle rfl⟩, ?_⟩; conv => whnf) | fail)
    exact done_bool _ _ rfl rfl rfl
  · conv => whnf
    repeat (first | ((with_reducible first | apply ga | apply gb | apply gc | apply gd | apply ge | apply gf | apply gg | apply gh | apply gi | apply gj); conv => whnf) | (refine ⟨⟨rfl, rfl, nle rfl, nle rfl⟩, ?_⟩; conv => whnf) | fail)
    refine CallK.drop [] (f25 l h (by omega)) ⟨.same, trivial⟩ ?_
    conv => whnf
    repeat (first | ((with_reducible first | apply ga | apply gb | apply gc | apply gd | apply ge | apply gf | apply gg | apply gh | apply gi | apply gj); conv => whnf) | (refine ⟨⟨rfl, rfl, nle rfl, nle rfl⟩, ?_⟩; conv => whnf) | fail)
    refine CallK.drop [] (f26 l h (by omega)) ⟨.same, trivial⟩ ?_
    conv => whnf
    repeat (first | ((with_reducible first | apply ga | apply gb | apply gc | apply gd | apply ge | apply gf | apply gg | apply gh | apply gi | apply gj); conv => whnf) | (refine ⟨⟨rfl, rfl, nle rfl, nle rfl⟩, ?_⟩; conv => whnf) | fail)
    obtain ⟨x, hx⟩ : ∃ x, packR l = x := ⟨_, rfl⟩
    rw [hx]
    conv => whnf
    repeat (first | ((with_reducible first | apply ga | apply gb | apply gc | apply gd | apply ge | apply gf | apply gg | apply gh | apply gi | apply gj); conv => whnf) | (refine ⟨⟨rfl, rfl, nle rfl, nle rfl⟩, ?_⟩; conv => whnf) | fail)
    refine ⟨fun _ => ?_, fun h => absurd h (by simp)⟩
    conv => whnf
    repeat (first | ((with_reducible first | apply ga | apply gb | apply gc | apply gd | apply ge | apply gf | apply gg | apply gh | apply gi | apply gj); conv => whnf) | (refine ⟨⟨rfl, rfl, nle rfl, nle rfl⟩, ?_⟩; conv => whnf) | fail)
    refine ⟨⟨rfl, fun _ _ => rfl⟩, ?_⟩
    conv => whnf
    repeat (first | ((with_reducible first | apply ga | apply gb | apply gc | apply gd | apply ge | apply gf | apply gg | apply gh | apply gi | apply gj); conv => whnf) | (refine ⟨⟨rfl, rfl, nle rfl, nle rfl⟩, ?_⟩; conv => whnf) | fail)
    refine ⟨⟨rfl, fun _ _ => rfl⟩, ?_⟩
    conv => whnf
    repeat (first | ((with_reducible first | apply ga | apply gb | apply gc | apply gd | apply ge | apply gf | apply gg | apply gh | apply gi | apply gj); conv => whnf) | (refine ⟨⟨rfl, rfl, nle rfl, nle rfl⟩, ?_⟩; conv => whnf) | fail)
    refine ⟨fun _ => ?_, fun h => absurd h (by simp)⟩
    conv => whnf
    repeat (first | ((with_reducible first | apply ga | apply gb | apply gc | apply gd | apply ge | apply gf | apply gg | apply gh | apply gi | apply gj); conv => whnf) | (refine ⟨⟨rfl, rfl, nle rfl, nle rfl⟩, ?_⟩; conv => whnf) | fail)
    refine CallK.flat [] f15 trivial rfl ?_
    conv => whnf
    repeat (first | ((with_reducible first | apply ga | apply gb | apply gc | apply gd | apply ge | apply gf | apply gg | apply gh | apply gi | apply gj); conv => whnf) | (refine ⟨⟨rfl, rfl, nle rfl, nle rfl⟩, ?_⟩; conv => whnf) | fail)
    exact done_bool _ _ rfl rfl rfl
theorem banksA_ok {L : List Nat} : ∀ (n a : Nat) (last : Int) (acc bs : List BankR) (a' : Nat), a ≤ L.length → (∀ b ∈ acc, BankB b ∧ sealedB b = true) → banksA L a n last acc = .ok (bs, a') → a' ≤ L.length ∧ bs.length = acc.length + n ∧ ∀ b ∈ bs, BankB b ∧ sealedB b = true
  | 0, a, last, acc, bs, a', ha, hb, h => by
    rw [banksA] at h
    have e := Except.ok.inj h
    injection e with e1 e2
    subst e1; subst e2
    exact ⟨ha, by omega, hb⟩
  | n + 1, a, last, acc, bs, a', ha, hb, h => by
    rw [banksA] at h
    cases hk : bankA L a last with
    | error e => rw [hk] at h; cases h
    | ok x =>
      obtain ⟨b, a1⟩ := x
      rw [hk] at h
      obtain ⟨h1, h2, _, h4⟩ := bankA_ok hk
      obtain ⟨q1, q2, q3⟩ := banksA_ok n a1 b.num (acc ++ [b]) bs a' h1 (fun c hc => by
        rcases List.mem_append.mp hc with hc | hc
        · exact hb c hc
        · rw [List.mem_singleton] at hc; subst hc; exact ⟨h2, h4⟩) h
      exact ⟨q1, by rw [q2]; simp; omega, q3⟩
theorem unpackA_ok {L : List Nat} {bs : List BankR} (h : unpackA L = .ok bs) : bs.length ≤ 36 ∧ ∀ b ∈ bs, BankB b ∧ sealedB b = true := by
  unfold unpackA at h
  cases h1 : magE L 0 with
  | some e => rw [h1] at h; cases h
  | none =>
    rw [h1] at h
    dsimp only at h
    cases h2 : wordE L 4 36 with
    | some e => rw [h2] at h; cases h
    | none =>
      rw [h2] at h
      dsimp only at h
      obtain ⟨q1, q2⟩ := wordE_none h2
      cases h3 : banksA L 6 (lo (wordS L 4)) (-1) [] with
      | error e => rw [h3] at h; cases h
      | ok x =>
        obtain ⟨cs, a⟩ := x
        rw [h3] at h
        dsimp only at h
        obtain ⟨r1, r2, r3⟩ := banksA_ok _ _ _ _ _ _ (by omega) (fun _ hb => by cases hb) h3
        split at h
        · cases h
        · obtain rfl : cs = bs := Except.ok.inj h
          exact ⟨by rw [r2]; simp; omega, r3⟩
theorem unpackA_bs {L : List Nat} {bs : List BankR} (h : unpackA L = .ok bs) : BsB bs := ⟨by have := (unpackA_ok h).1; omega, fun b hb => ((unpackA_ok h).2 b hb).1⟩
theorem f6 (L : List Nat) (h : BtB L) : PureCall Try.prog 6 [.pv (bytesP L)] (bb true) := by
  obtain ⟨bs, p, e, hx, hB⟩ : ∃ (bs : List BankR) (p e : Int), unpackT (unpackA L) = tupV [.pv (banksP bs), i64 p, i64 e] ∧ BsB bs := by
    cases hu : unpackA L with
    | error x => exact ⟨[], x.1, x.2, rfl, ⟨by decide, fun _ h => by cases h⟩⟩
    | ok bs => exact ⟨bs, 0, 0, rfl, unpackA_bs hu⟩
  refine PureCall.run tab_ok mixed (by kernel_rfl) Try.func6 rfl rfl rfl ?_
  conv => whnf
  repeat (first | ((with_reducible first | apply ga | apply gb | apply gc | apply gd | apply ge | apply gf | apply gg | apply gh | apply gi | apply gj); conv => whnf) | (refine ⟨⟨rfl, rfl, nle rfl, nle rfl⟩, ?_⟩; conv => whnf) | fail)
  refine CallK.drop [] (f27 L h) ⟨.same, trivial⟩ ?_
  conv => whnf
  repeat (first | ((with_reducible first | apply ga | apply gb | apply gc | apply gd | apply ge | apply gf | apply gg | apply gh | apply gi | apply gj); conv => whnf) | (refine ⟨⟨rfl, rfl, nle rfl, nle rfl⟩, ?_⟩; conv => whnf) | fail)
  rw [hx]
  conv => whnf
  repeat (first | ((with_reducible first | apply ga | apply gb | apply gc | apply gd | apply ge | apply gf | apply gg | apply gh | apply gi | apply gj); conv => whnf) | (refine ⟨⟨rfl, rfl, nle rfl, nle rfl⟩, ?_⟩; conv => whnf) | fail)
  refine CallK.drop [] (f28 L h) ⟨.same, trivial⟩ ?_
  conv => whnf
  repeat (first | ((with_reducible first | apply ga | apply gb | apply gc | apply gd | apply ge | apply gf | apply gg | apply gh | apply gi | apply gj); conv => whnf) | (refine ⟨⟨rfl, rfl, nle rfl, nle rfl⟩, ?_⟩; conv => whnf) | fail)
  rw [hx]
  conv => whnf
  repeat (first | ((with_reducible first | apply ga | apply gb | apply gc | apply gd | apply ge | apply gf | apply gg | apply gh | apply gi | apply gj); conv => whnf) | (refine ⟨⟨rfl, rfl, nle rfl, nle rfl⟩, ?_⟩; conv => whnf) | fail)
  refine ⟨fun _ => ?_, fun h => absurd h (by simp)⟩
  conv => whnf
  repeat (first | ((with_reducible first | apply ga | apply gb | apply gc | apply gd | apply ge | apply gf | apply gg | apply gh | apply gi | apply gj); conv => whnf) | (refine ⟨⟨rfl, rfl, nle rfl, nle rfl⟩, ?_⟩; conv => whnf) | fail)
  refine ⟨fun _ => ?_, fun h => absurd h (by simp)⟩
  conv => whnf
  repeat (first | ((with_reducible first | apply ga | apply gb | apply gc | apply gd | apply ge | apply gf | apply gg | apply gh | apply gi | apply gj); conv => whnf) | (refine ⟨⟨rfl, rfl, nle rfl, nle rfl⟩, ?_⟩; conv => whnf) | fail)
  refine CallK.flat [] (f18 bs hB) ⟨.same, .same, trivial⟩ rfl ?_
  conv => whnf
  repeat (first | ((with_reducible first | apply ga | apply gb | apply gc | apply gd | apply ge | apply gf | apply gg | apply gh | apply gi | apply gj); conv => whnf) | (refine ⟨⟨rfl, rfl, nle rfl, nle rfl⟩, ?_⟩; conv => whnf) | fail)
  refine CallK.flat [] f15 trivial rfl ?_
  conv => whnf
  repeat (first | ((with_reducible first | apply ga | apply gb | apply gc | apply gd | apply ge | apply gf | apply gg | apply gh | apply gi | apply gj); conv => whnf) | (refine ⟨⟨rfl, rfl, nle rfl, nle rfl⟩, ?_⟩; conv => whnf) | fail)
  exact done_bool _ _ rfl rfl rfl
end Go.Proofs.Ytioccpodnkllfaa

namespace Go.Proofs.Ytioccpodnkllfaa
open Go Go.AM
attribute [local irreducible] AWP CallK PureCall SubS HeapCall HeapCallP HeapCallK
theorem sealR_ok {b : BankR} (hB : BankB b) : BankB (sealR b).1 := by
  unfold sealR
  have h0 : BankB b0 := ⟨by unfold inI64; decide, by decide, fun _ h => by cases h⟩
  split
  · exact h0
  · rename_i h1
    split
    · exact h0
    · split
      · exact h0
      · have hn := num_in h1
        refine ⟨hB.1, by simp; have := hB.2.1; omega, fun y hy => ?_⟩
        rcases List.mem_append.mp hy with hy | hy
        · exact hB.2.2 y hy
        · rw [List.mem_singleton] at hy
          subst hy
          have := add_lt (ofW b.num) (neg (sumW b.ws))
          unfold lastW; omega
set_option maxHeartbeats 4000000 in
theorem f4 (b : BankR) (hB : BankB b) : PureCall Try.prog 4 [b.av] (bb true) := by
  have hs := sealR_ok hB
  obtain ⟨x, hx⟩ : ∃ x, sealR b = x := ⟨_, rfl⟩
  have c1 := f19 b hB
  have c2 := f20 b hB
  rw [hx] at c1 c2 hs
  refine PureCall.body tab_ok (by kernel_rfl) Try.func4 rfl rfl rfl ?_
  refine awp_piece tab_ok mixed ?_
  conv => whnf
  repeat (first | ((with_reducible first | apply ga | apply gb | apply gc | apply gd | apply ge | apply gf | apply gg | apply gh | apply gi | apply gj); conv => whnf) | (refine ⟨⟨rfl, rfl, nle rfl, nle rfl⟩, ?_⟩; conv => whnf) | (refine AD.plain rfl ?_; conv => whnf) | fail)
  refine awp_piece tab_ok mixed ?_
  conv => whnf
  repeat (first | ((with_reducible first | apply ga | apply gb | apply gc | apply gd | apply ge | apply gf | apply gg | apply gh | apply gi | apply gj); conv => whnf) | (refine ⟨⟨rfl, rfl, nle rfl, nle rfl⟩, ?_⟩; conv => whnf) | (refine AD.plain rfl ?_; conv => whnf) | fail)
  repeat (refine ⟨⟨rfl, rfl, nle rfl, nle rfl⟩, ?_⟩; conv => whnf)
  repeat (first | ((with_reducible first | apply ga | apply gb | apply gc | apply gd | apply ge | apply gf | apply gg | apply gh | apply gi | apply gj); conv => whnf) | (refine ⟨⟨rfl, rfl, nle rfl, nle rfl⟩, ?_⟩; conv => whnf) | (refine AD.plain rfl ?_; conv => whnf) | fail)
  refine CallK.drop [] c1 ⟨agg2 .same .same, trivial⟩ ?_
  conv => whnf
  repeat (first | ((with_reducible first | apply ga | apply gb | apply gc | apply gd | apply ge | apply gf | apply gg | apply gh | apply gi | apply gj); conv => whnf) | (refine ⟨⟨rfl, rfl, nle rfl, nle rfl⟩, ?_⟩; conv => whnf) | (refine AD.plain rfl ?_; conv => whnf) | fail)
  repeat (refine ⟨⟨rfl, rfl, nle rfl, nle rfl⟩, ?_⟩; conv => whnf)
  repeat (first | ((with_reducible first | apply ga | apply gb | apply gc | apply gd | apply ge | apply gf | apply gg | apply gh | apply gi | apply gj); conv => whnf) | (refine ⟨⟨rfl, rfl, nle rfl, nle rfl⟩, ?_⟩; conv => whnf) | (refine AD.plain rfl ?_; conv => whnf) | fail)
  refine awp_piece tab_ok mixed ?_
  conv => whnf
  repeat (first | ((with_reducible first | apply ga | apply gb | apply gc | apply gd | apply ge | apply gf | apply gg | apply gh | apply gi | apply gj); conv => whnf) | (refine ⟨⟨rfl, rfl, nle rfl, nle rfl⟩, ?_⟩; conv => whnf) | (refine AD.plain rfl ?_; conv => whnf) | fail)
  repeat (refine ⟨⟨rfl, rfl, nle rfl, nle rfl⟩, ?_⟩; conv => whnf)
  repeat (first | ((with_reducible first | apply ga | apply gb | apply gc | apply gd | apply ge | apply gf | apply gg | apply gh | apply gi | apply gj); conv => whnf) | (refine ⟨⟨rfl, rfl, nle rfl, nle rfl⟩, ?_⟩; conv => whnf) | (refine AD.plain rfl ?_; conv => whnf) | fail)
  refine CallK.drop [] c2 ⟨agg2 .same .same, trivial⟩ ?_
  conv => whnf
  repeat (first | ((with_reducible first | apply ga | apply gb | apply gc | apply gd | apply ge | apply gf | apply gg | apply gh | apply gi | apply gj); conv => whnf) | (refine ⟨⟨rfl, rfl, nle rfl, nle rfl⟩, ?_⟩; conv => whnf) | (refine AD.plain rfl ?_; conv => whnf) | fail)
  repeat (refine ⟨⟨rfl, rfl, nle rfl, nle rfl⟩, ?_⟩; conv => whnf)
  repeat (first | ((with_reducible first | apply ga | apply gb | apply gc | apply gd | apply ge | apply gf | apply gg | apply gh | apply gi | apply gj); conv => whnf) | (refine ⟨⟨rfl, rfl, nle rfl, nle rfl⟩, ?_⟩; conv => whnf) | (refine AD.plain rfl ?_; conv => whnf) | fail)
  refine awp_piece tab_ok mixed (ex_drawn (by kernel_rfl) ?_)
  repeat (first | ((with_reducible first | apply ga | apply gb | apply gc | apply gd | apply ge | apply gf | apply gg | apply gh | apply gi | apply gj); conv => whnf) | (refine ⟨⟨rfl, rfl, nle rfl, nle rfl⟩, ?_⟩; conv => whnf) | (refine AD.plain rfl ?_; conv => whnf) | (refine AD.on rfl rfl rfl ?_; conv => whnf) | (refine AD.off rfl rfl rfl ?_; conv => whnf) | fail)
  repeat (refine ⟨⟨rfl, rfl, nle rfl, nle rfl⟩, ?_⟩; conv => whnf)
  repeat (first | ((with_reducible first | apply ga | apply gb | apply gc | apply gd | apply ge | apply gf | apply gg | apply gh | apply gi | apply gj); conv => whnf) | (refine ⟨⟨rfl, rfl, nle rfl, nle rfl⟩, ?_⟩; conv => whnf) | (refine AD.plain rfl ?_; conv => whnf) | fail)
  refine ⟨_, [], ⟨_, (f21 b.ws hB.2), ⟨.same, trivial⟩, .inl rfl⟩, ?_⟩
  conv => whnf
  repeat (first | ((with_reducible first | apply ga | apply gb | apply gc | apply gd | apply ge | apply gf | apply gg | apply gh | apply gi | apply gj); conv => whnf) | (refine ⟨⟨rfl, rfl, nle rfl, nle rfl⟩, ?_⟩; conv => whnf) | (refine AD.plain rfl ?_; conv => whnf) | fail)
  repeat (first | ((with_reducible first | apply ga | apply gb | apply gc | apply gd | apply ge | apply gf | apply gg | apply gh | apply gi | apply gj); conv => whnf) | (refine ⟨⟨rfl, rfl, nle rfl, nle rfl⟩, ?_⟩; conv => whnf) | (refine AD.plain rfl ?_; conv => whnf) | (refine AD.on rfl rfl rfl ?_; conv => whnf) | (refine AD.off rfl rfl rfl ?_; conv => whnf) | fail)
  repeat (refine ⟨⟨rfl, rfl, nle rfl, nle rfl⟩, ?_⟩; conv => whnf)
  repeat (first | ((with_reducible first | apply ga | apply gb | apply gc | apply gd | apply ge | apply gf | apply gg | apply gh | apply gi | apply gj); conv => whnf) | (refine ⟨⟨rfl, rfl, nle rfl, nle rfl⟩, ?_⟩; conv => whnf) | (refine AD.plain rfl ?_; conv => whnf) | fail)
  refine ⟨_, [], ⟨_, (f22 b.ws hB.2), ⟨.same, trivial⟩, .inl rfl⟩, ?_⟩
  conv => whnf
  repeat (first | ((with_reducible first | apply ga | apply gb | apply gc | apply gd | apply ge | apply gf | apply gg | apply gh | apply gi | apply gj); conv => whnf) | (refine ⟨⟨rfl, rfl, nle rfl, nle rfl⟩, ?_⟩; conv => whnf) | (refine AD.plain rfl ?_; conv => whnf) | fail)
  repeat (first | ((with_reducible first | apply ga | apply gb | apply gc | apply gd | apply ge | apply gf | apply gg | apply gh | apply gi | apply gj); conv => whnf) | (refine ⟨⟨rfl, rfl, nle rfl, nle rfl⟩, ?_⟩; conv => whnf) | (refine AD.plain rfl ?_; conv => whnf) | (refine AD.on rfl rfl rfl ?_; conv => whnf) | (refine AD.off rfl rfl rfl ?_; conv => whnf) | fail)
  refine AD.test rfl rfl rfl ⟨fun _ => ?_, fun h => absurd h (by simp)⟩
  conv => whnf
  repeat (first | ((with_reducible first | apply ga | apply gb | apply gc | apply gd | apply ge | apply gf | apply gg | apply gh | apply gi | apply gj); conv => whnf) | (refine ⟨⟨rfl, rfl, nle rfl, nle rfl⟩, ?_⟩; conv => whnf) | (refine AD.plain rfl ?_; conv => whnf) | fail)
  repeat (refine ⟨⟨rfl, rfl, nle rfl, nle rfl⟩, ?_⟩; conv => whnf)
  repeat (first | ((with_reducible first | apply ga | apply gb | apply gc | apply gd | apply ge | apply gf | apply gg | apply gh | apply gi | apply gj); conv => whnf) | (refine ⟨⟨rfl, rfl, nle rfl, nle rfl⟩, ?_⟩; conv => whnf) | (refine AD.plain rfl ?_; conv => whnf) | fail)
  repeat (first | ((with_reducible first | apply ga | apply gb | apply gc | apply gd | apply ge | apply gf | apply gg | apply gh | apply gi | apply gj); conv => whnf) | (refine ⟨⟨rfl, rfl, nle rfl, nle rfl⟩, ?_⟩; conv => whnf) | (refine AD.plain rfl ?_; conv => whnf) | (refine AD.on rfl rfl rfl ?_; conv => whnf) | (refine AD.off rfl rfl rfl ?_; conv => whnf) | fail)
  refine ⟨_, [], ⟨_, (f23 b hB), ⟨agg2 .same .same, trivial⟩, .inl rfl⟩, ?_⟩
  conv => whnf
  repeat (first | ((with_reducible first | apply ga | apply gb | apply gc | apply gd | apply ge | apply gf | apply gg | apply gh | apply gi | apply gj); conv => whnf) | (refine ⟨⟨rfl, rfl, nle rfl, nle rfl⟩, ?_⟩; conv => whnf) | (refine AD.plain rfl ?_; conv => whnf) | fail)
  repeat (first | ((with_reducible first | apply ga | apply gb | apply gc | apply gd | apply ge | apply gf | apply gg | apply gh | apply gi | apply gj); conv => whnf) | (refine ⟨⟨rfl, rfl, nle rfl, nle rfl⟩, ?_⟩; conv => whnf) | (refine AD.plain rfl ?_; conv => whnf) | (refine AD.on rfl rfl rfl ?_; conv => whnf) | (refine AD.off rfl rfl rfl ?_; conv => whnf) | fail)
  repeat (refine ⟨⟨rfl, rfl, nle rfl, nle rfl⟩, ?_⟩; conv => whnf)
  repeat (first | ((with_reducible first | apply ga | apply gb | apply gc | apply gd | apply ge | apply gf | apply gg | apply gh | apply gi | apply gj); conv => whnf) | (refine ⟨⟨rfl, rfl, nle rfl, nle rfl⟩, ?_⟩; conv => whnf) | (refine AD.plain rfl ?_; conv => whnf) | fail)
  repeat (first | ((with_reducible first | apply ga | apply gb | apply gc | apply gd | apply ge | apply gf | apply gg | apply gh | apply gi | apply gj); conv => whnf) | (refine ⟨⟨rfl, rfl, nle rfl, nle rfl⟩, ?_⟩; conv => whnf) | (refine AD.plain rfl ?_; conv => whnf) | (refine AD.on rfl rfl rfl ?_; conv => whnf) | (refine AD.off rfl rfl rfl ?_; conv => whnf) | fail)
  refine ⟨_, [], ⟨_, (f24 b hB), ⟨agg2 .same .same, trivial⟩, .inl rfl⟩, ?_⟩
  conv => whnf
  repeat (first | ((with_reducible first | apply ga | apply gb | apply gc | apply gd | apply ge | apply gf | apply gg | apply gh | apply gi | apply gj); conv => whnf) | (refine ⟨⟨rfl, rfl, nle rfl, nle rfl⟩, ?_⟩; conv => whnf) | (refine AD.plain rfl ?_; conv => whnf) | fail)
  repeat (first | ((with_reducible first | apply ga | apply gb | apply gc | apply gd | apply ge | apply gf | apply gg | apply gh | apply gi | apply gj); conv => whnf) | (refine ⟨⟨rfl, rfl, nle rfl, nle rfl⟩, ?_⟩; conv => whnf) | (refine AD.plain rfl ?_; conv => whnf) | (refine AD.on rfl rfl rfl ?_; conv => whnf) | (refine AD.off rfl rfl rfl ?_; conv => whnf) | fail)
  refine AD.test rfl rfl rfl ⟨fun _ => ?_, fun h => absurd h (by simp)⟩
  conv => whnf
  repeat (first | ((with_reducible first | apply ga | apply gb | apply gc | apply gd | apply ge | apply gf | apply gg | apply gh | apply gi | apply gj); conv => whnf) | (refine ⟨⟨rfl, rfl, nle rfl, nle rfl⟩, ?_⟩; conv => whnf) | (refine AD.plain rfl ?_; conv => whnf) | fail)
  repeat (first | ((with_reducible first | apply ga | apply gb | apply gc | apply gd | apply ge | apply gf | apply gg | apply gh | apply gi | apply gj); conv => whnf) | (refine ⟨⟨rfl, rfl, nle rfl, nle rfl⟩, ?_⟩; conv => whnf) | (refine AD.plain rfl ?_; conv => whnf) | (refine AD.on rfl rfl rfl ?_; conv => whnf) | (refine AD.off rfl rfl rfl ?_; conv => whnf) | fail)
  refine AD.test rfl rfl rfl ⟨fun _ => ?_, fun h => absurd h (by simp)⟩
  conv => whnf
  repeat (first | ((with_reducible first | apply ga | apply gb | apply gc | apply gd | apply ge | apply gf | apply gg | apply gh | apply gi | apply gj); conv => whnf) | (refine ⟨⟨rfl, rfl, nle rfl, nle rfl⟩, ?_⟩; conv => whnf) | (refine AD.plain rfl ?_; conv => whnf) | fail)
  repeat (refine ⟨⟨rfl, rfl, nle rfl, nle rfl⟩, ?_⟩; conv => whnf)
  repeat (first | ((with_reducible first | apply ga | apply gb | apply gc | apply gd | apply ge | apply gf | apply gg | apply gh | apply gi | apply gj); conv => whnf) | (refine ⟨⟨rfl, rfl, nle rfl, nle rfl⟩, ?_⟩; conv => whnf) | (refine AD.plain rfl ?_; conv => whnf) | fail)
  repeat (first | ((with_reducible first | apply ga | apply gb | apply gc | apply gd | apply ge | apply gf | apply gg | apply gh | apply gi | apply gj); conv => whnf) | (refine ⟨⟨rfl, rfl, nle rfl, nle rfl⟩, ?_⟩; conv => whnf) | (refine AD.plain rfl ?_; conv => whnf) | (refine AD.on rfl rfl rfl ?_; conv => whnf) | (refine AD.off rfl rfl rfl ?_; conv => whnf) | fail)
  repeat (refine ⟨⟨rfl, rfl, nle rfl, nle rfl⟩, ?_⟩; conv => whnf)
  repeat (first | ((with_reducible first | apply ga | apply gb | apply gc | apply gd | apply ge | apply gf | apply gg | apply gh | apply gi | apply gj); conv => whnf) | (refine ⟨⟨rfl, rfl, nle rfl, nle rfl⟩, ?_⟩; conv => whnf) | (refine AD.plain rfl ?_; conv => whnf) | fail)
  repeat (first | ((with_reducible first | apply ga | apply gb | apply gc | apply gd | apply ge | apply gf | apply gg | apply gh | apply gi | apply gj); conv => whnf) | (refine ⟨⟨rfl, rfl, nle rfl, nle rfl⟩, ?_⟩; conv => whnf) | (refine AD.plain rfl ?_; conv => whnf) | (refine AD.on rfl rfl rfl ?_; conv => whnf) | (refine AD.off rfl rfl rfl ?_; conv => whnf) | fail)
  refine ⟨_, [38, 40], ⟨_, f18 [x.1] ⟨by simp, fun c hc => ?_⟩, ⟨VLe.frzO (E := 35) (g := 0) (L := [x.1]) rfl rfl (CellsA.row (CellsA.one fun j hj => ?_) rfl rfl rfl) rfl, VLe.frzO (E := 35) (g := 0) (L := [x.1]) rfl rfl (CellsA.row (CellsA.one fun j hj => ?_) rfl rfl rfl) rfl, trivial⟩, .inl rfl⟩, ?_⟩
  · rw [List.mem_singleton] at hc
    subst hc; exact hs
  · match j, hj with
    | 0, _ => exact .same
    | 1, _ => exact .same
  · match j, hj with
    | 0, _ => exact .same
    | 1, _ => exact .same
  repeat (first | ((with_reducible first | apply ga | apply gb | apply gc | apply gd | apply ge | apply gf | apply gg | apply gh | apply gi | apply gj); conv => whnf) | (refine ⟨⟨rfl, rfl, nle rfl, nle rfl⟩, ?_⟩; conv => whnf) | (refine AD.plain rfl ?_; conv => whnf) | (refine AD.on rfl rfl rfl ?_; conv => whnf) | (refine AD.off rfl rfl rfl ?_; conv => whnf) | fail)
  refine ⟨_, [], ⟨_, f15, trivial, .inl rfl⟩, ?_⟩
  conv => whnf
  repeat (first | ((with_reducible first | apply ga | apply gb | apply gc | apply gd | apply ge | apply gf | apply gg | apply gh | apply gi | apply gj); conv => whnf) | (refine ⟨⟨rfl, rfl, nle rfl, nle rfl⟩, ?_⟩; conv => whnf) | (refine AD.plain rfl ?_; conv => whnf) | fail)
  repeat (first | ((with_reducible first | apply ga | apply gb | apply gc | apply gd | apply ge | apply gf | apply gg | apply gh | apply gi | apply gj); conv => whnf) | (refine ⟨⟨rfl, rfl, nle rfl, nle rfl⟩, ?_⟩; conv => whnf) | (refine AD.plain rfl ?_; conv => whnf) | (refine AD.on rfl rfl rfl ?_; conv => whnf) | (refine AD.off rfl rfl rfl ?_; conv => whnf) | fail)
  refine AD.nil ⟨by kernel_rfl, ?_⟩
  conv => whnf
  repeat (first | ((with_reducible first | apply ga | apply gb | apply gc | apply gd | apply ge | apply gf | apply gg | apply gh | apply gi | apply gj); conv => whnf) | (refine ⟨⟨rfl, rfl, nle rfl, nle rfl⟩, ?_⟩; conv => whnf) | (refine AD.plain rfl ?_; conv => whnf) | fail)
  refine awp_last tab_ok mixed ?_
  conv => whnf
  repeat (first | ((with_reducible first | apply ga | apply gb | apply gc | apply gd | apply ge | apply gf | apply gg | apply gh | apply gi | apply gj); conv => whnf) | (refine ⟨⟨rfl, rfl, nle rfl, nle rfl⟩, ?_⟩; conv => whnf) | (refine AD.plain rfl ?_; conv => whnf) | fail)
  exact done_bool _ _ rfl rfl rfl
end Go.Proofs.Ytioccpodnkllfaa
