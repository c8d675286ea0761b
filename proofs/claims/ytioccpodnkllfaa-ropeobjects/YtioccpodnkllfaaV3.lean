/- Part of the proof: what the functions that the law calls compute (3). -/
import Derived.Test.YtioccpodnkllfaaV2
namespace Go.Proofs.Ytioccpodnkllfaa
open Go Go.AM
attribute [local irreducible] AWP CallK PureCall SubS HeapCall HeapCallP HeapCallK
def lastA (l : List BankR) (i : Nat) : Int := if i = 0 then -1 else (l.getD (i - 1) b0).num
theorem packR_err {l : List BankR} {e : Int} (h : packE l (-1) = e) (he : e ≠ 0) : packR l = ([], e) := by
  unfold packR; rw [h, if_pos he]
set_option maxHeartbeats 4000000 in
theorem f26 (l : List BankR) (h : BsB l) (hl : l.length ≤ 100) : PureCall Try.prog 26 [.pv (banksP l)] (packT (packR l)) := by
  refine PureCall.run tab_ok mixed (by kernel_rfl) Try.func26 rfl rfl rfl ?_
  conv => whnf
  repeat (first | ((with_reducible first | apply ga | apply gb | apply gc | apply gd | apply ge | apply gf | apply gg | apply gh | apply gi | apply gj); conv => whnf) | (refine ⟨⟨rfl, rfl, nle rfl, nle rfl⟩, ?_⟩; conv => whnf) | (refine AD.plain rfl ?_; conv => whnf) | fail)
  refine CallK.heap f50 [] [] rfl rfl trivial trivial 2000 rfl ?_
  rintro _ _ ⟨rfl, rfl⟩
  conv => whnf
  repeat (first | ((with_reducible first | apply ga | apply gb | apply gc | apply gd | apply ge | apply gf | apply gg | apply gh | apply gi | apply gj); conv => whnf) | (refine ⟨⟨rfl, rfl, nle rfl, nle rfl⟩, ?_⟩; conv => whnf) | (refine AD.plain rfl ?_; conv => whnf) | fail)
  refine CallK.heap (f49 magicL 0 l.length (by omega) (by decide)) [] [(100, 2200)] rfl rfl
    ⟨.row _ _ _ _ _ _ _ _ _ rfl rfl rfl rfl, .same, trivial⟩ ⟨.inl ⟨_, _, rfl, rfl, rfl, .keepA⟩, trivial⟩ 3000 rfl ?_
  rintro _ _ ⟨g0, rfl, rfl⟩
  conv => whnf
  repeat (first | ((with_reducible first | apply ga | apply gb | apply gc | apply gd | apply ge | apply gf | apply gg | apply gh | apply gi | apply gj); conv => whnf) | (refine ⟨⟨rfl, rfl, nle rfl, nle rfl⟩, ?_⟩; conv => whnf) | (refine AD.plain rfl ?_; conv => whnf) | fail)
  refine awp_loopI (fun x : Nat × Nat × List Nat => (x.1 ≤ l.length ∧ x.2.2.length ≤ 6 + x.1 * 2052) ∧ x.2.2 = magicL ++ two l.length ++ (l.take x.1).flatMap bankBy ∧ packE l (-1) = packE (l.drop x.1) (lastA l x.1))
    (fun x => mkSt 96 [(0, .pv (banksP l)), (4, .row 1000 x.2.1 1 0 x.2.2.length), (5, i64 x.1)] [(1000, rowA 5 1 bcell 0 x.2.1 x.2.2)]) (fun x => l.length - x.1) (0, g0, magicL ++ two l.length) ⟨⟨Nat.zero_le _, by simp [magicL, two]⟩, by simp, rfl⟩
    (SubS.mkN [] [(1000, 3200)] rfl rfl rfl ⟨⟨_, rfl, .same⟩, ⟨_, rfl, .row _ _ _ _ _ _ _ _ _ rfl rfl rfl (by simp [two])⟩, ⟨_, rfl, .same⟩, trivial⟩ ⟨.inl ⟨_, _, rfl, rfl, rfl, .keepA⟩, trivial⟩) ?_
  rintro ⟨i, g, X⟩ ⟨⟨hi, hXl⟩, hX, hI⟩
  dsimp only at hi hXl hX hI ⊢
  refine awp_piece tab_ok mixed ?_
  conv => whnf
  repeat (first | ((with_reducible first | apply ga | apply gb | apply gc | apply gd | apply ge | apply gf | apply gg | apply gh | apply gi | apply gj); conv => whnf) | (refine ⟨⟨rfl, rfl, nle rfl, nle rfl⟩, ?_⟩; conv => whnf) | (refine AD.plain rfl ?_; conv => whnf) | fail)
  refine ⟨fun hc => ?_, fun hc => ?_⟩ <;> replace hc := nm hc <;> (try rw [Int.toNat_zero] at hc) <;> (try rw [Int.toNat_one] at hc)
  · have hlt : i < l.length := by omega
    have hb := bsB h hlt
    rw [drop_getD (d := b0) hlt, packE] at hI
    have hne := hb.2.1
    have hbad : ∀ e, checkE (l.getD i b0) (lastA l i) = e → e ≠ 0 → packR l = ([], e) := fun e he h0 => by
      refine packR_err ?_ h0
      rw [hI, he, if_pos h0]
    conv => whnf
    repeat (first | ((with_reducible first | apply ga | apply gb | apply gc | apply gd | apply ge | apply gf | apply gg | apply gh | apply gi | apply gj); conv => whnf) | (refine ⟨⟨rfl, rfl, nle rfl, nle rfl⟩, ?_⟩; conv => whnf) | (refine AD.plain rfl ?_; conv => whnf) | fail)
    refine awp_seq (awp_block ?_)
    refine awp_piece tab_ok mixed ?_
    conv => whnf
    repeat (first | ((with_reducible first | apply ga | apply gb | apply gc | apply gd | apply ge | apply gf | apply gg | apply gh | apply gi | apply gj); conv => whnf) | (refine ⟨⟨rfl, rfl, nle rfl, nle rfl⟩, ?_⟩; conv => whnf) | (refine AD.plain rfl ?_; conv => whnf) | fail)
    refine ⟨⟨by omega, by omega, rfl⟩, ?_⟩
    conv => whnf
    repeat (first | ((with_reducible first | apply ga | apply gb | apply gc | apply gd | apply ge | apply gf | apply gg | apply gh | apply gi | apply gj); conv => whnf) | (refine ⟨⟨rfl, rfl, nle rfl, nle rfl⟩, ?_⟩; conv => whnf) | (refine AD.plain rfl ?_; conv => whnf) | fail)
    refine ⟨⟨by decide⟩, ?_⟩
    conv => whnf
    repeat (first | ((with_reducible first | apply ga | apply gb | apply gc | apply gd | apply ge | apply gf | apply gg | apply gh | apply gi | apply gj); conv => whnf) | (refine ⟨⟨rfl, rfl, nle rfl, nle rfl⟩, ?_⟩; conv => whnf) | (refine AD.plain rfl ?_; conv => whnf) | fail)
    refine ⟨⟨by decide⟩, ?_⟩
    conv => whnf
    repeat (first | ((with_reducible first | apply ga | apply gb | apply gc | apply gd | apply ge | apply gf | apply gg | apply gh | apply gi | apply gj); conv => whnf) | (refine ⟨⟨rfl, rfl, nle rfl, nle rfl⟩, ?_⟩; conv => whnf) | (refine AD.plain rfl ?_; conv => whnf) | fail)
    refine CallK.flat [] (f41 (l.getD i b0).num) ⟨.same, trivial⟩ rfl ?_
    conv => whnf
    repeat (first | ((with_reducible first | apply ga | apply gb | apply gc | apply gd | apply ge | apply gf | apply gg | apply gh | apply gi | apply gj); conv => whnf) | (refine ⟨⟨rfl, rfl, nle rfl, nle rfl⟩, ?_⟩; conv => whnf) | (refine AD.plain rfl ?_; conv => whnf) | fail)
    refine ⟨fun h1 => ?_, fun h1 => ?_⟩ <;> replace h1 := nm h1 <;> (try rw [Int.toNat_zero] at h1) <;> (try rw [Int.toNat_one] at h1)
    · conv => whnf
      repeat (first | ((with_reducible first | apply ga | apply gb | apply gc | apply gd | apply ge | apply gf | apply gg | apply gh | apply gi | apply gj); conv => whnf) | (refine ⟨⟨rfl, rfl, nle rfl, nle rfl⟩, ?_⟩; conv => whnf) | (refine AD.plain rfl ?_; conv => whnf) | fail)
      rw [hbad 3 (by unfold checkE; rw [if_pos h1]) (by decide)]
      exact done_tup [.pv (bytesP []), i64 3] [] rfl ⟨VLe.nilA, .same, trivial⟩
    · conv => whnf
      repeat (first | ((with_reducible first | apply ga | apply gb | apply gc | apply gd | apply ge | apply gf | apply gg | apply gh | apply gi | apply gj); conv => whnf) | (refine ⟨⟨rfl, rfl, nle rfl, nle rfl⟩, ?_⟩; conv => whnf) | (refine AD.plain rfl ?_; conv => whnf) | fail)
      refine awp_pieceM tab_ok mixed (mkSt 96 [(0, .pv (banksP l)), (4, .row 1000 g 1 0 X.length), (5, i64 i)] [(1000, rowA 5 1 bcell 0 g X)]) (¬ (l.getD i b0).num ≤ lastA l i) (fun K hK => ex_sq (ex_drawn (by kernel_rfl) ?_)) fun h2 => ?_
      · have hn := num_in (n := (l.getD i b0).num) (by rw [h1]; decide)
        conv => whnf
        repeat (first | ((with_reducible first | apply ga | apply gb | apply gc | apply gd | apply ge | apply gf | apply gg | apply gh | apply gi | apply gj); conv => whnf) | (refine ⟨⟨rfl, rfl, nle rfl, nle rfl⟩, ?_⟩; conv => whnf) | (refine AD.plain rfl ?_; conv => whnf) | fail)
        by_cases h0 : i = 0
        · subst h0
          refine AD.test rfl rfl rfl ⟨fun h => absurd h (by simp), fun _ => ?_⟩
          conv => whnf
          repeat (first | ((with_reducible first | apply ga | apply gb | apply gc | apply gd | apply ge | apply gf | apply gg | apply gh | apply gi | apply gj); conv => whnf) | (refine ⟨⟨rfl, rfl, nle rfl, nle rfl⟩, ?_⟩; conv => whnf) | (refine AD.plain rfl ?_; conv => whnf) | fail)
          repeat (first | ((with_reducible first | apply ga | apply gb | apply gc | apply gd | apply ge | apply gf | apply gg | apply gh | apply gi | apply gj); conv => whnf) | (refine ⟨⟨rfl, rfl, nle rfl, nle rfl⟩, ?_⟩; conv => whnf) | (refine AD.plain rfl ?_; conv => whnf) | (refine AD.on rfl rfl rfl ?_; conv => whnf) | (refine AD.off rfl rfl rfl ?_; conv => whnf) | fail)
          refine AD.nil ⟨by kernel_rfl, ?_⟩
          conv => whnf
          repeat (first | ((with_reducible first | apply ga | apply gb | apply gc | apply gd | apply ge | apply gf | apply gg | apply gh | apply gi | apply gj); conv => whnf) | (refine ⟨⟨rfl, rfl, nle rfl, nle rfl⟩, ?_⟩; conv => whnf) | (refine AD.plain rfl ?_; conv => whnf) | fail)
          refine hK _ (by unfold lastA; rw [if_pos rfl]; omega) (SubS.mkN [] [(1000, 1000)] rfl rfl rfl ⟨⟨_, rfl, .same⟩, ⟨_, rfl, .row _ _ _ _ _ _ _ _ _ rfl rfl rfl rfl⟩, ⟨_, rfl, .same⟩, trivial⟩ ⟨.inl ⟨_, _, rfl, rfl, rfl, .keepA⟩, trivial⟩)
        · refine AD.test rfl rfl rfl ⟨fun _ => ?_, fun h => absurd h (by rw [decide_eq_true (by omega)]; decide)⟩
          conv => whnf
          repeat (first | ((with_reducible first | apply ga | apply gb | apply gc | apply gd | apply ge | apply gf | apply gg | apply gh | apply gi | apply gj); conv => whnf) | (refine ⟨⟨rfl, rfl, nle rfl, nle rfl⟩, ?_⟩; conv => whnf) | (refine AD.plain rfl ?_; conv => whnf) | fail)
          repeat (first | ((with_reducible first | apply ga | apply gb | apply gc | apply gd | apply ge | apply gf | apply gg | apply gh | apply gi | apply gj); conv => whnf) | (refine ⟨⟨rfl, rfl, nle rfl, nle rfl⟩, ?_⟩; conv => whnf) | (refine AD.plain rfl ?_; conv => whnf) | (refine AD.on rfl rfl rfl ?_; conv => whnf) | (refine AD.off rfl rfl rfl ?_; conv => whnf) | fail)
          refine ⟨⟨by omega, by omega, rfl⟩, ?_⟩
          conv => whnf
          repeat (first | ((with_reducible first | apply ga | apply gb | apply gc | apply gd | apply ge | apply gf | apply gg | apply gh | apply gi | apply gj); conv => whnf) | (refine ⟨⟨rfl, rfl, nle rfl, nle rfl⟩, ?_⟩; conv => whnf) | (refine AD.plain rfl ?_; conv => whnf) | fail)
          repeat (first | ((with_reducible first | apply ga | apply gb | apply gc | apply gd | apply ge | apply gf | apply gg | apply gh | apply gi | apply gj); conv => whnf) | (refine ⟨⟨rfl, rfl, nle rfl, nle rfl⟩, ?_⟩; conv => whnf) | (refine AD.plain rfl ?_; conv => whnf) | (refine AD.on rfl rfl rfl ?_; conv => whnf) | (refine AD.off rfl rfl rfl ?_; conv => whnf) | fail)
          refine ⟨⟨by decide⟩, ?_⟩
          conv => whnf
          repeat (first | ((with_reducible first | apply ga | apply gb | apply gc | apply gd | apply ge | apply gf | apply gg | apply gh | apply gi | apply gj); conv => whnf) | (refine ⟨⟨rfl, rfl, nle rfl, nle rfl⟩, ?_⟩; conv => whnf) | (refine AD.plain rfl ?_; conv => whnf) | fail)
          repeat (first | ((with_reducible first | apply ga | apply gb | apply gc | apply gd | apply ge | apply gf | apply gg | apply gh | apply gi | apply gj); conv => whnf) | (refine ⟨⟨rfl, rfl, nle rfl, nle rfl⟩, ?_⟩; conv => whnf) | (refine AD.plain rfl ?_; conv => whnf) | (refine AD.on rfl rfl rfl ?_; conv => whnf) | (refine AD.off rfl rfl rfl ?_; conv => whnf) | fail)
          refine ⟨⟨by decide⟩, ?_⟩
          conv => whnf
          repeat (first | ((with_reducible first | apply ga | apply gb | apply gc | apply gd | apply ge | apply gf | apply gg | apply gh | apply gi | apply gj); conv => whnf) | (refine ⟨⟨rfl, rfl, nle rfl, nle rfl⟩, ?_⟩; conv => whnf) | (refine AD.plain rfl ?_; conv => whnf) | fail)
          repeat (first | ((with_reducible first | apply ga | apply gb | apply gc | apply gd | apply ge | apply gf | apply gg | apply gh | apply gi | apply gj); conv => whnf) | (refine ⟨⟨rfl, rfl, nle rfl, nle rfl⟩, ?_⟩; conv => whnf) | (refine AD.plain rfl ?_; conv => whnf) | (refine AD.on rfl rfl rfl ?_; conv => whnf) | (refine AD.off rfl rfl rfl ?_; conv => whnf) | fail)
          refine ⟨⟨by unfold inI64; omega⟩, ?_⟩
          conv => whnf
          repeat (first | ((with_reducible first | apply ga | apply gb | apply gc | apply gd | apply ge | apply gf | apply gg | apply gh | apply gi | apply gj); conv => whnf) | (refine ⟨⟨rfl, rfl, nle rfl, nle rfl⟩, ?_⟩; conv => whnf) | (refine AD.plain rfl ?_; conv => whnf) | fail)
          repeat (first | ((with_reducible first | apply ga | apply gb | apply gc | apply gd | apply ge | apply gf | apply gg | apply gh | apply gi | apply gj); conv => whnf) | (refine ⟨⟨rfl, rfl, nle rfl, nle rfl⟩, ?_⟩; conv => whnf) | (refine AD.plain rfl ?_; conv => whnf) | (refine AD.on rfl rfl rfl ?_; conv => whnf) | (refine AD.off rfl rfl rfl ?_; conv => whnf) | fail)
          refine ⟨⟨by omega, by omega, rfl⟩, ?_⟩
          conv => whnf
          repeat (first | ((with_reducible first | apply ga | apply gb | apply gc | apply gd | apply ge | apply gf | apply gg | apply gh | apply gi | apply gj); conv => whnf) | (refine ⟨⟨rfl, rfl, nle rfl, nle rfl⟩, ?_⟩; conv => whnf) | (refine AD.plain rfl ?_; conv => whnf) | fail)
          repeat (first | ((with_reducible first | apply ga | apply gb | apply gc | apply gd | apply ge | apply gf | apply gg | apply gh | apply gi | apply gj); conv => whnf) | (refine ⟨⟨rfl, rfl, nle rfl, nle rfl⟩, ?_⟩; conv => whnf) | (refine AD.plain rfl ?_; conv => whnf) | (refine AD.on rfl rfl rfl ?_; conv => whnf) | (refine AD.off rfl rfl rfl ?_; conv => whnf) | fail)
          refine ⟨⟨by decide⟩, ?_⟩
          conv => whnf
          repeat (first | ((with_reducible first | apply ga | apply gb | apply gc | apply gd | apply ge | apply gf | apply gg | apply gh | apply gi | apply gj); conv => whnf) | (refine ⟨⟨rfl, rfl, nle rfl, nle rfl⟩, ?_⟩; conv => whnf) | (refine AD.plain rfl ?_; conv => whnf) | fail)
          repeat (first | ((with_reducible first | apply ga | apply gb | apply gc | apply gd | apply ge | apply gf | apply gg | apply gh | apply gi | apply gj); conv => whnf) | (refine ⟨⟨rfl, rfl, nle rfl, nle rfl⟩, ?_⟩; conv => whnf) | (refine AD.plain rfl ?_; conv => whnf) | (refine AD.on rfl rfl rfl ?_; conv => whnf) | (refine AD.off rfl rfl rfl ?_; conv => whnf) | fail)
          refine ⟨⟨by decide⟩, ?_⟩
          conv => whnf
          repeat (first | ((with_reducible first | apply ga | apply gb | apply gc | apply gd | apply ge | apply gf | apply gg | apply gh | apply gi | apply gj); conv => whnf) | (refine ⟨⟨rfl, rfl, nle rfl, nle rfl⟩, ?_⟩; conv => whnf) | (refine AD.plain rfl ?_; conv => whnf) | fail)
          repeat (first | ((with_reducible first | apply ga | apply gb | apply gc | apply gd | apply ge | apply gf | apply gg | apply gh | apply gi | apply gj); conv => whnf) | (refine ⟨⟨rfl, rfl, nle rfl, nle rfl⟩, ?_⟩; conv => whnf) | (refine AD.plain rfl ?_; conv => whnf) | (refine AD.on rfl rfl rfl ?_; conv => whnf) | (refine AD.off rfl rfl rfl ?_; conv => whnf) | fail)
          refine AD.nil ⟨by kernel_rfl, ?_⟩
          conv => whnf
          repeat (first | ((with_reducible first | apply ga | apply gb | apply gc | apply gd | apply ge | apply gf | apply gg | apply gh | apply gi | apply gj); conv => whnf) | (refine ⟨⟨rfl, rfl, nle rfl, nle rfl⟩, ?_⟩; conv => whnf) | (refine AD.plain rfl ?_; conv => whnf) | fail)
          refine ⟨fun h2 => ?_, fun h2 => ?_⟩ <;> replace h2 := nm h2 <;> (try rw [Int.toNat_zero] at h2) <;> (try rw [Int.toNat_one] at h2)
          · conv => whnf
            repeat (first | ((with_reducible first | apply ga | apply gb | apply gc | apply gd | apply ge | apply gf | apply gg | apply gh | apply gi | apply gj); conv => whnf) | (refine ⟨⟨rfl, rfl, nle rfl, nle rfl⟩, ?_⟩; conv => whnf) | (refine AD.plain rfl ?_; conv => whnf) | fail)
            rw [Int.toNat_natCast, show ((i : Int) - 1).toNat = i - 1 by omega] at h2
            rw [hbad 8 (by unfold checkE lastA; rw [if_neg (by rw [h1]; decide), if_neg h0, if_pos h2]) (by decide)]
            exact done_tup [.pv (bytesP []), i64 8] [] rfl ⟨VLe.nilA, .same, trivial⟩
          · conv => whnf
            repeat (first | ((with_reducible first | apply ga | apply gb | apply gc | apply gd | apply ge | apply gf | apply gg | apply gh | apply gi | apply gj); conv => whnf) | (refine ⟨⟨rfl, rfl, nle rfl, nle rfl⟩, ?_⟩; conv => whnf) | (refine AD.plain rfl ?_; conv => whnf) | fail)
            rw [Int.toNat_natCast, show ((i : Int) - 1).toNat = i - 1 by omega] at h2
            refine hK _ (by unfold lastA; rw [if_neg h0]; omega) (SubS.mkN [] [(1000, 1000)] rfl rfl rfl ⟨⟨_, rfl, .same⟩, ⟨_, rfl, .row _ _ _ _ _ _ _ _ _ rfl rfl rfl rfl⟩, ⟨_, rfl, .same⟩, trivial⟩ ⟨.inl ⟨_, _, rfl, rfl, rfl, .keepA⟩, trivial⟩)
      · refine awp_piece tab_ok mixed ?_
        conv => whnf
        repeat (first | ((with_reducible first | apply ga | apply gb | apply gc | apply gd | apply ge | apply gf | apply gg | apply gh | apply gi | apply gj); conv => whnf) | (refine ⟨⟨rfl, rfl, nle rfl, nle rfl⟩, ?_⟩; conv => whnf) | (refine AD.plain rfl ?_; conv => whnf) | fail)
        refine ⟨⟨by omega, by omega, rfl⟩, ?_⟩
        conv => whnf
        repeat (first | ((with_reducible first | apply ga | apply gb | apply gc | apply gd | apply ge | apply gf | apply gg | apply gh | apply gi | apply gj); conv => whnf) | (refine ⟨⟨rfl, rfl, nle rfl, nle rfl⟩, ?_⟩; conv => whnf) | (refine AD.plain rfl ?_; conv => whnf) | fail)
        refine ⟨⟨by decide⟩, ?_⟩
        conv => whnf
        repeat (first | ((with_reducible first | apply ga | apply gb | apply gc | apply gd | apply ge | apply gf | apply gg | apply gh | apply gi | apply gj); conv => whnf) | (refine ⟨⟨rfl, rfl, nle rfl, nle rfl⟩, ?_⟩; conv => whnf) | (refine AD.plain rfl ?_; conv => whnf) | fail)
        refine ⟨⟨by decide⟩, ?_⟩
        conv => whnf
        repeat (first | ((with_reducible first | apply ga | apply gb | apply gc | apply gd | apply ge | apply gf | apply gg | apply gh | apply gi | apply gj); conv => whnf) | (refine ⟨⟨rfl, rfl, nle rfl, nle rfl⟩, ?_⟩; conv => whnf) | (refine AD.plain rfl ?_; conv => whnf) | fail)
        rw [Int.toNat_natCast]
        refine ⟨fun h3 => ?_, fun h3 => ?_⟩ <;> replace h3 := nm h3 <;> (try rw [Int.toNat_zero] at h3) <;> (try rw [Int.toNat_one] at h3)
        · conv => whnf
          repeat (first | ((with_reducible first | apply ga | apply gb | apply gc | apply gd | apply ge | apply gf | apply gg | apply gh | apply gi | apply gj); conv => whnf) | (refine ⟨⟨rfl, rfl, nle rfl, nle rfl⟩, ?_⟩; conv => whnf) | (refine AD.plain rfl ?_; conv => whnf) | fail)
          rw [hbad 4 (by unfold checkE; rw [if_neg (by rw [h1]; decide), if_neg h2, if_pos (show lenB _ = false by unfold lenB; exact decide_eq_false (by omega))]) (by decide)]
          exact done_tup [.pv (bytesP []), i64 4] [] rfl ⟨VLe.nilA, .same, trivial⟩
        · have h3' : lenB (l.getD i b0).ws = true := by unfold lenB; exact decide_eq_true (by omega)
          conv => whnf
          repeat (first | ((with_reducible first | apply ga | apply gb | apply gc | apply gd | apply ge | apply gf | apply gg | apply gh | apply gi | apply gj); conv => whnf) | (refine ⟨⟨rfl, rfl, nle rfl, nle rfl⟩, ?_⟩; conv => whnf) | (refine AD.plain rfl ?_; conv => whnf) | fail)
          refine awp_piece tab_ok mixed ?_
          conv => whnf
          repeat (first | ((with_reducible first | apply ga | apply gb | apply gc | apply gd | apply ge | apply gf | apply gg | apply gh | apply gi | apply gj); conv => whnf) | (refine ⟨⟨rfl, rfl, nle rfl, nle rfl⟩, ?_⟩; conv => whnf) | (refine AD.plain rfl ?_; conv => whnf) | fail)
          refine ⟨⟨by omega, by omega, rfl⟩, ?_⟩
          conv => whnf
          repeat (first | ((with_reducible first | apply ga | apply gb | apply gc | apply gd | apply ge | apply gf | apply gg | apply gh | apply gi | apply gj); conv => whnf) | (refine ⟨⟨rfl, rfl, nle rfl, nle rfl⟩, ?_⟩; conv => whnf) | (refine AD.plain rfl ?_; conv => whnf) | fail)
          refine ⟨⟨by decide⟩, ?_⟩
          conv => whnf
          repeat (first | ((with_reducible first | apply ga | apply gb | apply gc | apply gd | apply ge | apply gf | apply gg | apply gh | apply gi | apply gj); conv => whnf) | (refine ⟨⟨rfl, rfl, nle rfl, nle rfl⟩, ?_⟩; conv => whnf) | (refine AD.plain rfl ?_; conv => whnf) | fail)
          refine ⟨⟨by decide⟩, ?_⟩
          conv => whnf
          repeat (first | ((with_reducible first | apply ga | apply gb | apply gc | apply gd | apply ge | apply gf | apply gg | apply gh | apply gi | apply gj); conv => whnf) | (refine ⟨⟨rfl, rfl, nle rfl, nle rfl⟩, ?_⟩; conv => whnf) | (refine AD.plain rfl ?_; conv => whnf) | fail)
          refine CallK.flat [] (f42 (l.getD i b0).ws hb.2) ⟨.same, trivial⟩ rfl ?_
          conv => whnf
          repeat (first | ((with_reducible first | apply ga | apply gb | apply gc | apply gd | apply ge | apply gf | apply gg | apply gh | apply gi | apply gj); conv => whnf) | (refine ⟨⟨rfl, rfl, nle rfl, nle rfl⟩, ?_⟩; conv => whnf) | (refine AD.plain rfl ?_; conv => whnf) | fail)
          refine ⟨fun h4 => ?_, fun h4 => ?_⟩ <;> replace h4 := nm h4 <;> (try rw [Int.toNat_zero] at h4) <;> (try rw [Int.toNat_one] at h4)
          · conv => whnf
            repeat (first | ((with_reducible first | apply ga | apply gb | apply gc | apply gd | apply ge | apply gf | apply gg | apply gh | apply gi | apply gj); conv => whnf) | (refine ⟨⟨rfl, rfl, nle rfl, nle rfl⟩, ?_⟩; conv => whnf) | (refine AD.plain rfl ?_; conv => whnf) | fail)
            rw [hbad 3 (by unfold checkE; rw [if_neg (by rw [h1]; decide), if_neg h2, if_neg (by rw [h3']; decide), if_pos h4]) (by decide)]
            exact done_tup [.pv (bytesP []), i64 3] [] rfl ⟨VLe.nilA, .same, trivial⟩
          · conv => whnf
            repeat (first | ((with_reducible first | apply ga | apply gb | apply gc | apply gd | apply ge | apply gf | apply gg | apply gh | apply gi | apply gj); conv => whnf) | (refine ⟨⟨rfl, rfl, nle rfl, nle rfl⟩, ?_⟩; conv => whnf) | (refine AD.plain rfl ?_; conv => whnf) | fail)
            refine awp_piece tab_ok mixed ?_
            conv => whnf
            repeat (first | ((with_reducible first | apply ga | apply gb | apply gc | apply gd | apply ge | apply gf | apply gg | apply gh | apply gi | apply gj); conv => whnf) | (refine ⟨⟨rfl, rfl, nle rfl, nle rfl⟩, ?_⟩; conv => whnf) | (refine AD.plain rfl ?_; conv => whnf) | fail)
            refine ⟨⟨by omega, by omega, rfl⟩, ?_⟩
            conv => whnf
            repeat (first | ((with_reducible first | apply ga | apply gb | apply gc | apply gd | apply ge | apply gf | apply gg | apply gh | apply gi | apply gj); conv => whnf) | (refine ⟨⟨rfl, rfl, nle rfl, nle rfl⟩, ?_⟩; conv => whnf) | (refine AD.plain rfl ?_; conv => whnf) | fail)
            refine ⟨⟨by decide⟩, ?_⟩
            conv => whnf
            repeat (first | ((with_reducible first | apply ga | apply gb | apply gc | apply gd | apply ge | apply gf | apply gg | apply gh | apply gi | apply gj); conv => whnf) | (refine ⟨⟨rfl, rfl, nle rfl, nle rfl⟩, ?_⟩; conv => whnf) | (refine AD.plain rfl ?_; conv => whnf) | fail)
            refine CallK.flat [] (f24 (l.getD i b0) hb) ⟨agg2 .same .same, trivial⟩ rfl ?_
            conv => whnf
            repeat (first | ((with_reducible first | apply ga | apply gb | apply gc | apply gd | apply ge | apply gf | apply gg | apply gh | apply gi | apply gj); conv => whnf) | (refine ⟨⟨rfl, rfl, nle rfl, nle rfl⟩, ?_⟩; conv => whnf) | (refine AD.plain rfl ?_; conv => whnf) | fail)
            refine ⟨fun h5 => ?_, fun h5 => ?_⟩ <;> replace h5 := nm h5 <;> (try rw [Int.toNat_zero] at h5) <;> (try rw [Int.toNat_one] at h5)
            · conv => whnf
              repeat (first | ((with_reducible first | apply ga | apply gb | apply gc | apply gd | apply ge | apply gf | apply gg | apply gh | apply gi | apply gj); conv => whnf) | (refine ⟨⟨rfl, rfl, nle rfl, nle rfl⟩, ?_⟩; conv => whnf) | (refine AD.plain rfl ?_; conv => whnf) | fail)
              rw [hbad 10 (by unfold checkE; rw [if_neg (by rw [h1]; decide), if_neg h2, if_neg (by rw [h3']; decide), if_neg (by rw [h4]; decide), if_pos h5]) (by decide)]
              exact done_tup [.pv (bytesP []), i64 10] [] rfl ⟨VLe.nilA, .same, trivial⟩
            · conv => whnf
              repeat (first | ((with_reducible first | apply ga | apply gb | apply gc | apply gd | apply ge | apply gf | apply gg | apply gh | apply gi | apply gj); conv => whnf) | (refine ⟨⟨rfl, rfl, nle rfl, nle rfl⟩, ?_⟩; conv => whnf) | (refine AD.plain rfl ?_; conv => whnf) | fail)
              refine awp_seq (awp_mixed tab_ok mixed [0,1,2,3,4,5,7,8,9,10,11,12,14] [0,1,2,3,4,5,7,8,9,10,11,12,6,13,14] (by kernel_rfl) (fun _ _ _ _ _ _ _ h => h) ?_)
              conv => whnf
              repeat (first | ((with_reducible first | apply ga | apply gb | apply gc | apply gd | apply ge | apply gf | apply gg | apply gh | apply gi | apply gj); conv => whnf) | (refine ⟨⟨rfl, rfl, nle rfl, nle rfl⟩, ?_⟩; conv => whnf) | (refine AD.plain rfl ?_; conv => whnf) | fail)
              refine ⟨⟨by omega, by omega, rfl⟩, ?_⟩
              conv => whnf
              repeat (first | ((with_reducible first | apply ga | apply gb | apply gc | apply gd | apply ge | apply gf | apply gg | apply gh | apply gi | apply gj); conv => whnf) | (refine ⟨⟨rfl, rfl, nle rfl, nle rfl⟩, ?_⟩; conv => whnf) | (refine AD.plain rfl ?_; conv => whnf) | fail)
              refine ⟨⟨by decide⟩, ?_⟩
              conv => whnf
              repeat (first | ((with_reducible first | apply ga | apply gb | apply gc | apply gd | apply ge | apply gf | apply gg | apply gh | apply gi | apply gj); conv => whnf) | (refine ⟨⟨rfl, rfl, nle rfl, nle rfl⟩, ?_⟩; conv => whnf) | (refine AD.plain rfl ?_; conv => whnf) | fail)
              refine ⟨⟨by decide⟩, ?_⟩
              conv => whnf
              repeat (first | ((with_reducible first | apply ga | apply gb | apply gc | apply gd | apply ge | apply gf | apply gg | apply gh | apply gi | apply gj); conv => whnf) | (refine ⟨⟨rfl, rfl, nle rfl, nle rfl⟩, ?_⟩; conv => whnf) | (refine AD.plain rfl ?_; conv => whnf) | fail)
              refine ⟨⟨by omega, by omega, rfl⟩, ?_⟩
              conv => whnf
              repeat (first | ((with_reducible first | apply ga | apply gb | apply gc | apply gd | apply ge | apply gf | apply gg | apply gh | apply gi | apply gj); conv => whnf) | (refine ⟨⟨rfl, rfl, nle rfl, nle rfl⟩, ?_⟩; conv => whnf) | (refine AD.plain rfl ?_; conv => whnf) | fail)
              refine ⟨⟨by decide⟩, ?_⟩
              conv => whnf
              repeat (first | ((with_reducible first | apply ga | apply gb | apply gc | apply gd | apply ge | apply gf | apply gg | apply gh | apply gi | apply gj); conv => whnf) | (refine ⟨⟨rfl, rfl, nle rfl, nle rfl⟩, ?_⟩; conv => whnf) | (refine AD.plain rfl ?_; conv => whnf) | fail)
              refine ⟨⟨by decide⟩, ?_⟩
              conv => whnf
              repeat (first | ((with_reducible first | apply ga | apply gb | apply gc | apply gd | apply ge | apply gf | apply gg | apply gh | apply gi | apply gj); conv => whnf) | (refine ⟨⟨rfl, rfl, nle rfl, nle rfl⟩, ?_⟩; conv => whnf) | (refine AD.plain rfl ?_; conv => whnf) | fail)
              have hn := num_in (n := (l.getD i b0).num) (by rw [h1]; decide)
              have hw : (l.getD i b0).ws.length ≤ 1024 := by omega
              refine CallK.heap (f49 X g (l.getD i b0).num.toNat (by omega) (by omega)) [] [(100, 1000)] rfl rfl
                ⟨.row _ _ _ _ _ _ _ _ _ rfl rfl rfl rfl, VLe.int (by rw [Int.toNat_natCast]; omega), trivial⟩ ⟨.inl ⟨_, _, rfl, rfl, rfl, .keepA⟩, trivial⟩ 2000 rfl ?_
              rintro _ _ ⟨g1, rfl, rfl⟩
              conv => whnf
              repeat (first | ((with_reducible first | apply ga | apply gb | apply gc | apply gd | apply ge | apply gf | apply gg | apply gh | apply gi | apply gj); conv => whnf) | (refine ⟨⟨rfl, rfl, nle rfl, nle rfl⟩, ?_⟩; conv => whnf) | (refine AD.plain rfl ?_; conv => whnf) | fail)
              refine CallK.heap (f49 (X ++ two (l.getD i b0).num.toNat) g1 (l.getD i b0).ws.length (by omega) (by simp [two]; omega)) [] [(100, 2200)] rfl rfl
                ⟨.row _ _ _ _ _ _ _ _ _ rfl rfl rfl (by simp [two]), VLe.int (by rw [Int.toNat_natCast]), trivial⟩ ⟨.inl ⟨_, _, rfl, rfl, rfl, .keepA⟩, trivial⟩ 3000 rfl ?_
              rintro _ _ ⟨g2, rfl, rfl⟩
              conv => whnf
              repeat (first | ((with_reducible first | apply ga | apply gb | apply gc | apply gd | apply ge | apply gf | apply gg | apply gh | apply gi | apply gj); conv => whnf) | (refine ⟨⟨rfl, rfl, nle rfl, nle rfl⟩, ?_⟩; conv => whnf) | (refine AD.plain rfl ?_; conv => whnf) | fail)
              obtain ⟨Z, hZ⟩ : ∃ Z, X ++ two (l.getD i b0).num.toNat ++ two (l.getD i b0).ws.length = Z := ⟨_, rfl⟩
              have hZl : Z.length = X.length + 4 := by rw [← hZ]; simp [two]
              refine awp_piece tab_ok mixed ?_
              conv => whnf
              repeat (first | ((with_reducible first | apply ga | apply gb | apply gc | apply gd | apply ge | apply gf | apply gg | apply gh | apply gi | apply gj); conv => whnf) | (refine ⟨⟨rfl, rfl, nle rfl, nle rfl⟩, ?_⟩; conv => whnf) | (refine AD.plain rfl ?_; conv => whnf) | fail)
              refine awp_block (awp_loopI (fun x : Nat × Nat × List Nat => (x.1 ≤ (l.getD i b0).ws.length ∧ x.2.2.length = Z.length + 2 * x.1) ∧ x.2.2 = Z ++ twos ((l.getD i b0).ws.take x.1))
                (fun x => mkSt 96 [(0, .pv (banksP l)), (4, .row 1000 x.2.1 1 0 x.2.2.length), (5, i64 i), (6, i64 x.1)] [(1000, rowA 5 1 bcell 0 x.2.1 x.2.2)]) (fun x => (l.getD i b0).ws.length - x.1) (0, g2, Z) ⟨⟨Nat.zero_le _, rfl⟩, by simp [twos]⟩
                (SubS.mkN [] [(1000, 3200)] rfl rfl rfl ⟨⟨_, rfl, .same⟩, ⟨_, rfl, .row _ _ _ _ _ _ _ _ _ rfl rfl rfl (by rw [← hZ]; simp [two])⟩, ⟨_, rfl, .same⟩, ⟨_, rfl, .same⟩, trivial⟩ ⟨.inl ⟨_, _, rfl, rfl, rfl, by rw [hZ]; exact .keepA⟩, trivial⟩) ?_)
              rintro ⟨j, g3, Y⟩ ⟨⟨hj, hYl⟩, hY⟩
              dsimp only at hj hYl hY ⊢
              refine awp_piece tab_ok mixed ?_
              conv => whnf
              repeat (first | ((with_reducible first | apply ga | apply gb | apply gc | apply gd | apply ge | apply gf | apply gg | apply gh | apply gi | apply gj); conv => whnf) | (refine ⟨⟨rfl, rfl, nle rfl, nle rfl⟩, ?_⟩; conv => whnf) | (refine AD.plain rfl ?_; conv => whnf) | fail)
              refine ⟨⟨by omega, by omega, rfl⟩, ?_⟩
              conv => whnf
              repeat (first | ((with_reducible first | apply ga | apply gb | apply gc | apply gd | apply ge | apply gf | apply gg | apply gh | apply gi | apply gj); conv => whnf) | (refine ⟨⟨rfl, rfl, nle rfl, nle rfl⟩, ?_⟩; conv => whnf) | (refine AD.plain rfl ?_; conv => whnf) | fail)
              refine ⟨⟨by decide⟩, ?_⟩
              conv => whnf
              repeat (first | ((with_reducible first | apply ga | apply gb | apply gc | apply gd | apply ge | apply gf | apply gg | apply gh | apply gi | apply gj); conv => whnf) | (refine ⟨⟨rfl, rfl, nle rfl, nle rfl⟩, ?_⟩; conv => whnf) | (refine AD.plain rfl ?_; conv => whnf) | fail)
              refine ⟨⟨by decide⟩, ?_⟩
              conv => whnf
              repeat (first | ((with_reducible first | apply ga | apply gb | apply gc | apply gd | apply ge | apply gf | apply gg | apply gh | apply gi | apply gj); conv => whnf) | (refine ⟨⟨rfl, rfl, nle rfl, nle rfl⟩, ?_⟩; conv => whnf) | (refine AD.plain rfl ?_; conv => whnf) | fail)
              rw [Int.toNat_natCast]
              refine ⟨fun hd => ?_, fun hd => ?_⟩ <;> replace hd := nm hd <;> (try rw [Int.toNat_zero] at hd) <;> (try rw [Int.toNat_one] at hd)
              · have hjl : j < (l.getD i b0).ws.length := by omega
                have hwb := wB hb.2 hjl
                conv => whnf
                repeat (first | ((with_reducible first | apply ga | apply gb | apply gc | apply gd | apply ge | apply gf | apply gg | apply gh | apply gi | apply gj); conv => whnf) | (refine ⟨⟨rfl, rfl, nle rfl, nle rfl⟩, ?_⟩; conv => whnf) | (refine AD.plain rfl ?_; conv => whnf) | fail)
                refine awp_seq (awp_block (awp_last tab_ok mixed ?_))
                conv => whnf
                repeat (first | ((with_reducible first | apply ga | apply gb | apply gc | apply gd | apply ge | apply gf | apply gg | apply gh | apply gi | apply gj); conv => whnf) | (refine ⟨⟨rfl, rfl, nle rfl, nle rfl⟩, ?_⟩; conv => whnf) | (refine AD.plain rfl ?_; conv => whnf) | fail)
                refine ⟨⟨by omega, by omega, rfl⟩, ?_⟩
                conv => whnf
                repeat (first | ((with_reducible first | apply ga | apply gb | apply gc | apply gd | apply ge | apply gf | apply gg | apply gh | apply gi | apply gj); conv => whnf) | (refine ⟨⟨rfl, rfl, nle rfl, nle rfl⟩, ?_⟩; conv => whnf) | (refine AD.plain rfl ?_; conv => whnf) | fail)
                refine ⟨⟨by decide⟩, ?_⟩
                conv => whnf
                repeat (first | ((with_reducible first | apply ga | apply gb | apply gc | apply gd | apply ge | apply gf | apply gg | apply gh | apply gi | apply gj); conv => whnf) | (refine ⟨⟨rfl, rfl, nle rfl, nle rfl⟩, ?_⟩; conv => whnf) | (refine AD.plain rfl ?_; conv => whnf) | fail)
                refine ⟨⟨by decide⟩, ?_⟩
                conv => whnf
                repeat (first | ((with_reducible first | apply ga | apply gb | apply gc | apply gd | apply ge | apply gf | apply gg | apply gh | apply gi | apply gj); conv => whnf) | (refine ⟨⟨rfl, rfl, nle rfl, nle rfl⟩, ?_⟩; conv => whnf) | (refine AD.plain rfl ?_; conv => whnf) | fail)
                refine ⟨⟨by omega, by rw [Int.toNat_natCast]; omega, rfl⟩, ?_⟩
                conv => whnf
                repeat (first | ((with_reducible first | apply ga | apply gb | apply gc | apply gd | apply ge | apply gf | apply gg | apply gh | apply gi | apply gj); conv => whnf) | (refine ⟨⟨rfl, rfl, nle rfl, nle rfl⟩, ?_⟩; conv => whnf) | (refine AD.plain rfl ?_; conv => whnf) | fail)
                refine ⟨⟨by decide⟩, ?_⟩
                conv => whnf
                repeat (first | ((with_reducible first | apply ga | apply gb | apply gc | apply gd | apply ge | apply gf | apply gg | apply gh | apply gi | apply gj); conv => whnf) | (refine ⟨⟨rfl, rfl, nle rfl, nle rfl⟩, ?_⟩; conv => whnf) | (refine AD.plain rfl ?_; conv => whnf) | fail)
                refine CallK.heap (f49 Y g3 ((l.getD i b0).ws.getD j 0) hwb (by omega)) [] [(100, 1000)] rfl rfl
                  ⟨.row _ _ _ _ _ _ _ _ _ rfl rfl rfl rfl, VLe.int (by rw [Int.toNat_natCast, Int.toNat_natCast, wi64 (by omega) (by omega)]), trivial⟩ ⟨.inl ⟨_, _, rfl, rfl, rfl, .keepA⟩, trivial⟩ 2000 rfl ?_
                rintro _ _ ⟨g4, rfl, rfl⟩
                conv => whnf
                repeat (first | ((with_reducible first | apply ga | apply gb | apply gc | apply gd | apply ge | apply gf | apply gg | apply gh | apply gi | apply gj); conv => whnf) | (refine ⟨⟨rfl, rfl, nle rfl, nle rfl⟩, ?_⟩; conv => whnf) | (refine AD.plain rfl ?_; conv => whnf) | fail)
                refine awp_last tab_ok mixed ?_
                conv => whnf
                repeat (first | ((with_reducible first | apply ga | apply gb | apply gc | apply gd | apply ge | apply gf | apply gg | apply gh | apply gi | apply gj); conv => whnf) | (refine ⟨⟨rfl, rfl, nle rfl, nle rfl⟩, ?_⟩; conv => whnf) | (refine AD.plain rfl ?_; conv => whnf) | fail)
                refine ⟨⟨by unfold inI64; omega⟩, ?_⟩
                conv => whnf
                repeat (first | ((with_reducible first | apply ga | apply gb | apply gc | apply gd | apply ge | apply gf | apply gg | apply gh | apply gi | apply gj); conv => whnf) | (refine ⟨⟨rfl, rfl, nle rfl, nle rfl⟩, ?_⟩; conv => whnf) | (refine AD.plain rfl ?_; conv => whnf) | fail)
                refine ⟨(j + 1, g4, Y ++ two ((l.getD i b0).ws.getD j 0)), ⟨⟨hjl, by dsimp only; rw [List.length_append]; simp [two]; omega⟩, ?_⟩, SubS.mkN [] [(1000, 2200)] rfl rfl rfl ⟨⟨_, rfl, .same⟩, ⟨_, rfl, .row _ _ _ _ _ _ _ _ _ rfl rfl rfl (by simp [two])⟩, ⟨_, rfl, .same⟩, ⟨_, rfl, .same⟩, trivial⟩ ⟨.inl ⟨_, _, rfl, rfl, rfl, .keepA⟩, trivial⟩, by dsimp only; omega⟩
                dsimp only
                rw [take_sn (d := 0) hjl, twos_sn, hY, List.append_assoc]
              · obtain rfl : j = (l.getD i b0).ws.length := by omega
                rw [List.take_of_length_le (by omega)] at hY
                conv => whnf
                repeat (first | ((with_reducible first | apply ga | apply gb | apply gc | apply gd | apply ge | apply gf | apply gg | apply gh | apply gi | apply gj); conv => whnf) | (refine ⟨⟨rfl, rfl, nle rfl, nle rfl⟩, ?_⟩; conv => whnf) | (refine AD.plain rfl ?_; conv => whnf) | fail)
                refine awp_last tab_ok mixed ?_
                conv => whnf
                repeat (first | ((with_reducible first | apply ga | apply gb | apply gc | apply gd | apply ge | apply gf | apply gg | apply gh | apply gi | apply gj); conv => whnf) | (refine ⟨⟨rfl, rfl, nle rfl, nle rfl⟩, ?_⟩; conv => whnf) | (refine AD.plain rfl ?_; conv => whnf) | fail)
                refine ⟨⟨by unfold inI64; omega⟩, ?_⟩
                conv => whnf
                repeat (first | ((with_reducible first | apply ga | apply gb | apply gc | apply gd | apply ge | apply gf | apply gg | apply gh | apply gi | apply gj); conv => whnf) | (refine ⟨⟨rfl, rfl, nle rfl, nle rfl⟩, ?_⟩; conv => whnf) | (refine AD.plain rfl ?_; conv => whnf) | fail)
                have hce : checkE (l.getD i b0) (lastA l i) = 0 := by unfold checkE; rw [if_neg (by rw [h1]; decide), if_neg h2, if_neg (by rw [h3']; decide), if_neg (by rw [h4]; decide), if_neg (by rw [h5]; decide)]
                refine ⟨(i + 1, g3, Y), ⟨⟨hlt, by dsimp only; omega⟩, ?_, ?_⟩, SubS.mkN [] [(1000, 1000)] rfl rfl rfl ⟨⟨_, rfl, .same⟩, ⟨_, rfl, .row _ _ _ _ _ _ _ _ _ rfl rfl rfl rfl⟩, ⟨_, rfl, .same⟩, trivial⟩ ⟨.inl ⟨_, _, rfl, rfl, rfl, .keepA⟩, trivial⟩, by dsimp only; omega⟩
                · dsimp only
                  rw [take_sn (d := b0) hlt, List.flatMap_append, hY, ← hZ, hX]
                  simp [bankBy, List.append_assoc]
                · dsimp only
                  rw [hI, hce, if_neg (by decide)]
                  unfold lastA
                  rw [if_neg (by omega), Nat.add_sub_cancel]
  · have hil : i = l.length := by omega
    rw [List.drop_eq_nil_of_le (by omega), packE] at hI
    rw [List.take_of_length_le (by omega)] at hX
    have hXP : X = packB l := by rw [hX]; simp [packB]
    have e : packR l = (packB l, 0) := by unfold packR; rw [hI, if_neg (by decide)]
    rw [e]
    subst hXP
    conv => whnf
    repeat (first | ((with_reducible first | apply ga | apply gb | apply gc | apply gd | apply ge | apply gf | apply gg | apply gh | apply gi | apply gj); conv => whnf) | (refine ⟨⟨rfl, rfl, nle rfl, nle rfl⟩, ?_⟩; conv => whnf) | (refine AD.plain rfl ?_; conv => whnf) | fail)
    exact done_tup [.pv (bytesP (packB l)), i64 0] [1000] rfl ⟨VLe.frzA rfl rfl rfl, .same, trivial⟩
end Go.Proofs.Ytioccpodnkllfaa

namespace Go.Proofs.Ytioccpodnkllfaa
open Go Go.AM
attribute [local irreducible] AWP CallK PureCall SubS HeapCall HeapCallP HeapCallK
/-- The reader: the bytes, where it is, and the first error. -/
def rfO (L : List Nat) (a : Int) (w e : Int) : AO := ⟨94, 0, 4, 1, fun _ j => match j with | 0 => .pv (bytesP L) | 1 => i64 a | 2 => i64 w | _ => i64 e⟩
theorem rfLe {H : Heap} {B : List Nat} {U : List (Nat × Nat)} {o : AO} {L : List Nat} {a w e : Int} (e1 : o.E = 94) (e2 : o.gen = 0) (e3 : o.sz = 4) (e4 : o.n = 1) (h0 : VLe H B U (o.f 0 0) (.pv (bytesP L))) (h1 : VLe H B U (o.f 0 1) (i64 a)) (h2 : VLe H B U (o.f 0 2) (i64 w)) (h3 : VLe H B U (o.f 0 3) (i64 e)) : OLe H B U o (rfO L a w e) :=
  ⟨e1.symm, e2.symm, e3.symm, Nat.le_of_eq e4.symm, fun i j hi hj => by
    have hi0 : i = 0 := Nat.lt_one_iff.mp hi
    subst hi0
    rw [e3] at hj
    match j, hj with
    | 0, _ => exact h0
    | 1, _ => exact h1
    | 2, _ => exact h2
    | 3, _ => exact h3⟩
def rfX (L : List Nat) (a : Int) (x : Option (Nat × Nat)) : AO :=
  match x with
  | none => rfO L a 0 0
  | some (p, e) => rfO L a p e
theorem rfLeX {H : Heap} {B : List Nat} {U : List (Nat × Nat)} {o : AO} {L : List Nat} {a w e : Int} (h : o = rfO L a w e) : OLe H B U o (rfO L a w e) := by
  subst h; exact rfLe rfl rfl rfl rfl .same .same .same .same
theorem f55 (L : List Nat) (a w p e : Int) : HeapCallK Try.prog 55 [.ptr 100 0 4 0 0, i64 p, i64 e] [(100, rfO L a w 0)]
    (fun r Hout => r = tupV [] ∧ Hout = [(100, rfO L a p e)]) (fun _ _ => False) := by
  refine HeapCallK.run tab_ok mixed (by kernel_rfl) Try.func55 rfl rfl rfl ?_
  conv => whnf
  repeat (first | ((with_reducible first | apply ga | apply gb | apply gc | apply gd | apply ge | apply gf | apply gg | apply gh | apply gi | apply gj); conv => whnf) | (refine ⟨⟨rfl, rfl, nle rfl, nle rfl⟩, ?_⟩; conv => whnf) | fail)
  repeat (refine ⟨⟨rfl, rfl, nle rfl, nle rfl⟩, ?_⟩; conv => whnf)
  repeat (first | ((with_reducible first | apply ga | apply gb | apply gc | apply gd | apply ge | apply gf | apply gg | apply gh | apply gi | apply gj); conv => whnf) | (refine ⟨⟨rfl, rfl, nle rfl, nle rfl⟩, ?_⟩; conv => whnf) | fail)
  refine ⟨fun _ => ?_, fun h => absurd h (by simp)⟩
  conv => whnf
  repeat (first | ((with_reducible first | apply ga | apply gb | apply gc | apply gd | apply ge | apply gf | apply gg | apply gh | apply gi | apply gj); conv => whnf) | (refine ⟨⟨rfl, rfl, nle rfl, nle rfl⟩, ?_⟩; conv => whnf) | fail)
  repeat (refine ⟨⟨rfl, rfl, nle rfl, nle rfl⟩, ?_⟩; conv => whnf)
  repeat (first | ((with_reducible first | apply ga | apply gb | apply gc | apply gd | apply ge | apply gf | apply gg | apply gh | apply gi | apply gj); conv => whnf) | (refine ⟨⟨rfl, rfl, nle rfl, nle rfl⟩, ?_⟩; conv => whnf) | fail)
  exact ⟨_, _, ⟨rfl, rfl⟩, SubS.mkK [] rfl ⟨⟨_, rfl, .tup _ _ _ fun i hi => absurd hi (Nat.not_lt_zero i)⟩, trivial⟩ ⟨.inl ⟨_, _, rfl, rfl, rfl, rfLe rfl rfl rfl rfl .same .same .same .same⟩, trivial⟩⟩
theorem f55' (L : List Nat) (a w p e d : Int) (hd0 : d ≠ 0) : HeapCallK Try.prog 55 [.ptr 100 0 4 0 0, i64 p, i64 e] [(100, rfO L a w d)]
    (fun r Hout => r = tupV [] ∧ Hout = [(100, rfO L a w d)]) (fun _ _ => False) := by
  refine HeapCallK.run tab_ok mixed (by kernel_rfl) Try.func55 rfl rfl rfl ?_
  conv => whnf
  repeat (first | ((with_reducible first | apply ga | apply gb | apply gc | apply gd | apply ge | apply gf | apply gg | apply gh | apply gi | apply gj); conv => whnf) | (refine ⟨⟨rfl, rfl, nle rfl, nle rfl⟩, ?_⟩; conv => whnf) | fail)
  repeat (refine ⟨⟨rfl, rfl, nle rfl, nle rfl⟩, ?_⟩; conv => whnf)
  repeat (first | ((with_reducible first | apply ga | apply gb | apply gc | apply gd | apply ge | apply gf | apply gg | apply gh | apply gi | apply gj); conv => whnf) | (refine ⟨⟨rfl, rfl, nle rfl, nle rfl⟩, ?_⟩; conv => whnf) | fail)
  refine ⟨fun h => absurd h (by rw [beq_eq_false_iff_ne.mpr hd0]; decide), fun _ => ?_⟩
  conv => whnf
  repeat (first | ((with_reducible first | apply ga | apply gb | apply gc | apply gd | apply ge | apply gf | apply gg | apply gh | apply gi | apply gj); conv => whnf) | (refine ⟨⟨rfl, rfl, nle rfl, nle rfl⟩, ?_⟩; conv => whnf) | fail)
  exact ⟨_, _, ⟨rfl, rfl⟩, SubS.mkK [] rfl ⟨⟨_, rfl, .tup _ _ _ fun i hi => absurd hi (Nat.not_lt_zero i)⟩, trivial⟩ ⟨.inl ⟨_, _, rfl, rfl, rfl, rfLe rfl rfl rfl rfl .same .same .same .same⟩, trivial⟩⟩
theorem f56' (L : List Nat) (a w d : Int) (m : Nat) (hd0 : d ≠ 0) : HeapCallK Try.prog 56 [.ptr 100 0 4 0 0, i64 m] [(100, rfO L a w d)]
    (fun r Hout => r = i64 0 ∧ Hout = [(100, rfO L a w d)]) (fun _ _ => False) := by
  refine HeapCallK.run tab_ok mixed (by kernel_rfl) Try.func56 rfl rfl rfl ?_
  conv => whnf
  repeat (first | ((with_reducible first | apply ga | apply gb | apply gc | apply gd | apply ge | apply gf | apply gg | apply gh | apply gi | apply gj); conv => whnf) | (refine ⟨⟨rfl, rfl, nle rfl, nle rfl⟩, ?_⟩; conv => whnf) | fail)
  repeat (refine ⟨⟨rfl, rfl, nle rfl, nle rfl⟩, ?_⟩; conv => whnf)
  repeat (first | ((with_reducible first | apply ga | apply gb | apply gc | apply gd | apply ge | apply gf | apply gg | apply gh | apply gi | apply gj); conv => whnf) | (refine ⟨⟨rfl, rfl, nle rfl, nle rfl⟩, ?_⟩; conv => whnf) | fail)
  refine ⟨fun _ => ?_, fun h => absurd h (by simp [hd0])⟩
  conv => whnf
  repeat (first | ((with_reducible first | apply ga | apply gb | apply gc | apply gd | apply ge | apply gf | apply gg | apply gh | apply gi | apply gj); conv => whnf) | (refine ⟨⟨rfl, rfl, nle rfl, nle rfl⟩, ?_⟩; conv => whnf) | fail)
  exact ⟨_, _, ⟨rfl, rfl⟩, SubS.mkK [] rfl ⟨⟨_, rfl, .same⟩, trivial⟩ ⟨.inl ⟨_, _, rfl, rfl, rfl, rfLe rfl rfl rfl rfl .same .same .same .same⟩, trivial⟩⟩
theorem wordE_cases (L : List Nat) (a m : Nat) : (L.length < a + 2 ∧ wordE L a m = some (L.length, 9)) ∨ (a + 2 ≤ L.length ∧ oddF (wordS L a) 16 = false ∧ wordE L a m = some (a, 11)) ∨ (a + 2 ≤ L.length ∧ oddF (wordS L a) 16 = true ∧ m < lo (wordS L a) ∧ wordE L a m = some (a, 5)) ∨ (a + 2 ≤ L.length ∧ oddF (wordS L a) 16 = true ∧ lo (wordS L a) ≤ m ∧ wordE L a m = none) := by
  unfold wordE
  by_cases h1 : L.length < a + 2
  · exact .inl ⟨h1, by rw [if_pos h1]⟩
  · by_cases h2 : oddF (wordS L a) 16 = false
    · exact .inr (.inl ⟨by omega, h2, by rw [if_neg h1, if_pos h2]⟩)
    · by_cases h3 : m < lo (wordS L a)
      · exact .inr (.inr (.inl ⟨by omega, by simpa using h2, h3, by rw [if_neg h1, if_neg h2, if_pos h3]⟩))
      · exact .inr (.inr (.inr ⟨by omega, by simpa using h2, by omega, by rw [if_neg h1, if_neg h2, if_neg h3]⟩))
def wv (L : List Nat) (a m : Nat) : Int :=
  match wordE L a m with
  | none => (lo (wordS L a) : Nat)
  | some _ => 0
def wr (L : List Nat) (a m : Nat) : AO :=
  match wordE L a m with
  | none => rfO L (a + 2 : Nat) 0 0
  | some (p, e) => rfO L a p e
theorem ml8 (a b : Nat) (ha : a < 256) (hb : b < 256) : IntKind.u16.wrap (IntKind.u16.wrap (IntKind.u16.wrap (a : Int) * 256) + IntKind.u16.wrap (b : Int)) = ((a * 256 + b : Nat) : Int) := by
  rw [wn16 (n := (a : Int)) (by omega) (by omega), wn16 (n := (b : Int)) (by omega) (by omega), wn16 (n := (a : Int) * 256) (by omega) (by omega), wn16 (by omega) (by omega)]
  omega
theorem f56 (L : List Nat) (hL : BtB L) (a m : Nat) (ha : a ≤ L.length) (_hm : m < 65536) : HeapCallK Try.prog 56 [.ptr 100 0 4 0 0, i64 m] [(100, rfO L a 0 0)]
    (fun r Hout => r = i64 (wv L a m) ∧ Hout = [(100, wr L a m)]) (fun _ _ => False) := by
  have hl := hL.1
  refine HeapCallK.run tab_ok mixed (by kernel_rfl) Try.func56 rfl rfl rfl ?_
  conv => whnf
  repeat (first | ((with_reducible first | apply ga | apply gb | apply gc | apply gd | apply ge | apply gf | apply gg | apply gh | apply gi | apply gj); conv => whnf) | (refine ⟨⟨rfl, rfl, nle rfl, nle rfl⟩, ?_⟩; conv => whnf) | fail)
  repeat (refine ⟨⟨rfl, rfl, nle rfl, nle rfl⟩, ?_⟩; conv => whnf)
  repeat (first | ((with_reducible first | apply ga | apply gb | apply gc | apply gd | apply ge | apply gf | apply gg | apply gh | apply gi | apply gj); conv => whnf) | (refine ⟨⟨rfl, rfl, nle rfl, nle rfl⟩, ?_⟩; conv => whnf) | fail)
  refine ⟨fun h => absurd h (by simp), fun _ => ?_⟩
  conv => whnf
  repeat (first | ((with_reducible first | apply ga | apply gb | apply gc | apply gd | apply ge | apply gf | apply gg | apply gh | apply gi | apply gj); conv => whnf) | (refine ⟨⟨rfl, rfl, nle rfl, nle rfl⟩, ?_⟩; conv => whnf) | fail)
  repeat (refine ⟨⟨rfl, rfl, nle rfl, nle rfl⟩, ?_⟩; conv => whnf)
  repeat (first | ((with_reducible first | apply ga | apply gb | apply gc | apply gd | apply ge | apply gf | apply gg | apply gh | apply gi | apply gj); conv => whnf) | (refine ⟨⟨rfl, rfl, nle rfl, nle rfl⟩, ?_⟩; conv => whnf) | fail)
  refine ⟨⟨by unfold inI64; omega⟩, ?_⟩
  conv => whnf
  repeat (first | ((with_reducible first | apply ga | apply gb | apply gc | apply gd | apply ge | apply gf | apply gg | apply gh | apply gi | apply gj); conv => whnf) | (refine ⟨⟨rfl, rfl, nle rfl, nle rfl⟩, ?_⟩; conv => whnf) | fail)
  refine ⟨rfl, ?_⟩
  conv => whnf
  repeat (first | ((with_reducible first | apply ga | apply gb | apply gc | apply gd | apply ge | apply gf | apply gg | apply gh | apply gi | apply gj); conv => whnf) | (refine ⟨⟨rfl, rfl, nle rfl, nle rfl⟩, ?_⟩; conv => whnf) | fail)
  refine ⟨fun h1 => ?_, fun h1 => ?_⟩ <;> replace h1 := nm h1 <;> (try rw [Int.toNat_zero] at h1) <;> (try rw [Int.toNat_one] at h1)
  · have hE : wordE L a m = some (L.length, 9) := by unfold wordE; rw [if_pos (by omega)]
    unfold wv wr
    rw [hE]
    conv => whnf
    repeat (first | ((with_reducible first | apply ga | apply gb | apply gc | apply gd | apply ge | apply gf | apply gg | apply gh | apply gi | apply gj); conv => whnf) | (refine ⟨⟨rfl, rfl, nle rfl, nle rfl⟩, ?_⟩; conv => whnf) | fail)
    repeat (refine ⟨⟨rfl, rfl, nle rfl, nle rfl⟩, ?_⟩; conv => whnf)
    repeat (first | ((with_reducible first | apply ga | apply gb | apply gc | apply gd | apply ge | apply gf | apply gg | apply gh | apply gi | apply gj); conv => whnf) | (refine ⟨⟨rfl, rfl, nle rfl, nle rfl⟩, ?_⟩; conv => whnf) | fail)
    refine CallK.heapK (f55 L a 0 L.length 9) [] [(100, 100)] rfl rfl rfl ⟨.ptr _ _ _ _ _ _ _ _ _ rfl rfl rfl rfl, .same, .same, trivial⟩ ⟨.inl ⟨_, _, rfl, rfl, rfl, rfLe rfl rfl rfl rfl .same .same .same .same⟩, trivial⟩ 2000 rfl ?_ (fun _ _ h => h.elim)
    rintro _ _ ⟨rfl, rfl⟩
    conv => whnf
    repeat (first | ((with_reducible first | apply ga | apply gb | apply gc | apply gd | apply ge | apply gf | apply gg | apply gh | apply gi | apply gj); conv => whnf) | (refine ⟨⟨rfl, rfl, nle rfl, nle rfl⟩, ?_⟩; conv => whnf) | fail)
    exact ⟨_, _, ⟨rfl, rfl⟩, SubS.mkK [] rfl ⟨⟨_, rfl, .same⟩, trivial⟩ ⟨.inl ⟨_, _, rfl, rfl, rfl, rfLe rfl rfl rfl rfl .same .same .same .same⟩, trivial⟩⟩
  · have hs : wordS L a < 65536 := by have := btB hL a; have := btB hL (a + 1); unfold wordS; omega
    conv => whnf
    repeat (first | ((with_reducible first | apply ga | apply gb | apply gc | apply gd | apply ge | apply gf | apply gg | apply gh | apply gi | apply gj); conv => whnf) | (refine ⟨⟨rfl, rfl, nle rfl, nle rfl⟩, ?_⟩; conv => whnf) | fail)
    repeat (refine ⟨⟨rfl, rfl, nle rfl, nle rfl⟩, ?_⟩; conv => whnf)
    repeat (first | ((with_reducible first | apply ga | apply gb | apply gc | apply gd | apply ge | apply gf | apply gg | apply gh | apply gi | apply gj); conv => whnf) | (refine ⟨⟨rfl, rfl, nle rfl, nle rfl⟩, ?_⟩; conv => whnf) | fail)
    refine ⟨⟨by omega, by omega, rfl⟩, ?_⟩
    conv => whnf
    repeat (first | ((with_reducible first | apply ga | apply gb | apply gc | apply gd | apply ge | apply gf | apply gg | apply gh | apply gi | apply gj); conv => whnf) | (refine ⟨⟨rfl, rfl, nle rfl, nle rfl⟩, ?_⟩; conv => whnf) | fail)
    refine ⟨⟨by decide⟩, ?_⟩
    conv => whnf
    repeat (first | ((with_reducible first | apply ga | apply gb | apply gc | apply gd | apply ge | apply gf | apply gg | apply gh | apply gi | apply gj); conv => whnf) | (refine ⟨⟨rfl, rfl, nle rfl, nle rfl⟩, ?_⟩; conv => whnf) | fail)
    repeat (refine ⟨⟨rfl, rfl, nle rfl, nle rfl⟩, ?_⟩; conv => whnf)
    repeat (first | ((with_reducible first | apply ga | apply gb | apply gc | apply gd | apply ge | apply gf | apply gg | apply gh | apply gi | apply gj); conv => whnf) | (refine ⟨⟨rfl, rfl, nle rfl, nle rfl⟩, ?_⟩; conv => whnf) | fail)
    refine ⟨⟨by unfold inI64; omega⟩, ?_⟩
    conv => whnf
    repeat (first | ((with_reducible first | apply ga | apply gb | apply gc | apply gd | apply ge | apply gf | apply gg | apply gh | apply gi | apply gj); conv => whnf) | (refine ⟨⟨rfl, rfl, nle rfl, nle rfl⟩, ?_⟩; conv => whnf) | fail)
    refine ⟨⟨by omega, by omega, rfl⟩, ?_⟩
    conv => whnf
    repeat (first | ((with_reducible first | apply ga | apply gb | apply gc | apply gd | apply ge | apply gf | apply gg | apply gh | apply gi | apply gj); conv => whnf) | (refine ⟨⟨rfl, rfl, nle rfl, nle rfl⟩, ?_⟩; conv => whnf) | fail)
    refine ⟨⟨by decide⟩, ?_⟩
    conv => whnf
    repeat (first | ((with_reducible first | apply ga | apply gb | apply gc | apply gd | apply ge | apply gf | apply gg | apply gh | apply gi | apply gj); conv => whnf) | (refine ⟨⟨rfl, rfl, nle rfl, nle rfl⟩, ?_⟩; conv => whnf) | fail)
    refine ⟨_, [], ⟨_, (f69 (wordS L a) hs), ⟨VLe.int (ml8 (L.getD a 0) (L.getD (a+1) 0) (btB hL a) (btB hL (a+1))), trivial⟩, .inl rfl⟩, ?_⟩
    conv => whnf
    repeat (first | ((with_reducible first | apply ga | apply gb | apply gc | apply gd | apply ge | apply gf | apply gg | apply gh | apply gi | apply gj); conv => whnf) | (refine ⟨⟨rfl, rfl, nle rfl, nle rfl⟩, ?_⟩; conv => whnf) | fail)
    refine ⟨rfl, ?_⟩
    conv => whnf
    repeat (first | ((with_reducible first | apply ga | apply gb | apply gc | apply gd | apply ge | apply gf | apply gg | apply gh | apply gi | apply gj); conv => whnf) | (refine ⟨⟨rfl, rfl, nle rfl, nle rfl⟩, ?_⟩; conv => whnf) | fail)
    have hlo := lo_lt (wordS L a)
    have hw : IntKind.i64.wrap ((lo (wordS L a) : Nat) : Int) = (lo (wordS L a) : Nat) := wi64 (by omega) (by omega)
    refine ⟨fun h2 => ?_, fun h2 => ?_⟩ <;> replace h2 := nm h2 <;> (try rw [Int.toNat_zero] at h2) <;> (try rw [Int.toNat_one] at h2)
    · have hE : wordE L a m = some (a, 11) := by unfold wordE; rw [if_neg (by omega), if_pos h2]
      unfold wv wr
      rw [hE]
      conv => whnf
      repeat (first | ((with_reducible first | apply ga | apply gb | apply gc | apply gd | apply ge | apply gf | apply gg | apply gh | apply gi | apply gj); conv => whnf) | (refine ⟨⟨rfl, rfl, nle rfl, nle rfl⟩, ?_⟩; conv => whnf) | fail)
      repeat (refine ⟨⟨rfl, rfl, nle rfl, nle rfl⟩, ?_⟩; conv => whnf)
      repeat (first | ((with_reducible first | apply ga | apply gb | apply gc | apply gd | apply ge | apply gf | apply gg | apply gh | apply gi | apply gj); conv => whnf) | (refine ⟨⟨rfl, rfl, nle rfl, nle rfl⟩, ?_⟩; conv => whnf) | fail)
      refine CallK.heapK (f55 L a 0 a 11) [] [(100, 100)] rfl rfl rfl ⟨.ptr _ _ _ _ _ _ _ _ _ rfl rfl rfl rfl, .same, .same, trivial⟩ ⟨.inl ⟨_, _, rfl, rfl, rfl, rfLe rfl rfl rfl rfl .same .same .same .same⟩, trivial⟩ 2000 rfl ?_ (fun _ _ h => h.elim)
      rintro _ _ ⟨rfl, rfl⟩
      conv => whnf
      repeat (first | ((with_reducible first | apply ga | apply gb | apply gc | apply gd | apply ge | apply gf | apply gg | apply gh | apply gi | apply gj); conv => whnf) | (refine ⟨⟨rfl, rfl, nle rfl, nle rfl⟩, ?_⟩; conv => whnf) | fail)
      exact ⟨_, _, ⟨rfl, rfl⟩, SubS.mkK [] rfl ⟨⟨_, rfl, .same⟩, trivial⟩ ⟨.inl ⟨_, _, rfl, rfl, rfl, rfLe rfl rfl rfl rfl .same .same .same .same⟩, trivial⟩⟩
    · conv => whnf
      repeat (first | ((with_reducible first | apply ga | apply gb | apply gc | apply gd | apply ge | apply gf | apply gg | apply gh | apply gi | apply gj); conv => whnf) | (refine ⟨⟨rfl, rfl, nle rfl, nle rfl⟩, ?_⟩; conv => whnf) | fail)
      refine ⟨fun h3 => ?_, fun h3 => ?_⟩ <;> replace h3 := nm h3 <;> (try rw [Int.toNat_zero] at h3) <;> (try rw [Int.toNat_one] at h3)
      · rw [hw] at h3
        have hE : wordE L a m = some (a, 5) := by unfold wordE; rw [if_neg (by omega), if_neg (by rw [h2]; decide), if_pos (by omega)]
        unfold wv wr
        rw [hE]
        conv => whnf
        repeat (first | ((with_reducible first | apply ga | apply gb | apply gc | apply gd | apply ge | apply gf | apply gg | apply gh | apply gi | apply gj); conv => whnf) | (refine ⟨⟨rfl, rfl, nle rfl, nle rfl⟩, ?_⟩; conv => whnf) | fail)
        repeat (refine ⟨⟨rfl, rfl, nle rfl, nle rfl⟩, ?_⟩; conv => whnf)
        repeat (first | ((with_reducible first | apply ga | apply gb | apply gc | apply gd | apply ge | apply gf | apply gg | apply gh | apply gi | apply gj); conv => whnf) | (refine ⟨⟨rfl, rfl, nle rfl, nle rfl⟩, ?_⟩; conv => whnf) | fail)
        refine CallK.heapK (f55 L a 0 a 5) [] [(100, 100)] rfl rfl rfl ⟨.ptr _ _ _ _ _ _ _ _ _ rfl rfl rfl rfl, .same, .same, trivial⟩ ⟨.inl ⟨_, _, rfl, rfl, rfl, rfLe rfl rfl rfl rfl .same .same .same .same⟩, trivial⟩ 2000 rfl ?_ (fun _ _ h => h.elim)
        rintro _ _ ⟨rfl, rfl⟩
        conv => whnf
        repeat (first | ((with_reducible first | apply ga | apply gb | apply gc | apply gd | apply ge | apply gf | apply gg | apply gh | apply gi | apply gj); conv => whnf) | (refine ⟨⟨rfl, rfl, nle rfl, nle rfl⟩, ?_⟩; conv => whnf) | fail)
        exact ⟨_, _, ⟨rfl, rfl⟩, SubS.mkK [] rfl ⟨⟨_, rfl, .same⟩, trivial⟩ ⟨.inl ⟨_, _, rfl, rfl, rfl, rfLe rfl rfl rfl rfl .same .same .same .same⟩, trivial⟩⟩
      · rw [hw] at h3
        have hE : wordE L a m = none := by unfold wordE; rw [if_neg (by omega), if_neg (by rw [h2]; decide), if_neg (by omega)]
        unfold wv wr
        rw [hE]
        conv => whnf
        repeat (first | ((with_reducible first | apply ga | apply gb | apply gc | apply gd | apply ge | apply gf | apply gg | apply gh | apply gi | apply gj); conv => whnf) | (refine ⟨⟨rfl, rfl, nle rfl, nle rfl⟩, ?_⟩; conv => whnf) | fail)
        repeat (refine ⟨⟨rfl, rfl, nle rfl, nle rfl⟩, ?_⟩; conv => whnf)
        repeat (first | ((with_reducible first | apply ga | apply gb | apply gc | apply gd | apply ge | apply gf | apply gg | apply gh | apply gi | apply gj); conv => whnf) | (refine ⟨⟨rfl, rfl, nle rfl, nle rfl⟩, ?_⟩; conv => whnf) | fail)
        refine ⟨⟨by unfold inI64; omega⟩, ?_⟩
        conv => whnf
        repeat (first | ((with_reducible first | apply ga | apply gb | apply gc | apply gd | apply ge | apply gf | apply gg | apply gh | apply gi | apply gj); conv => whnf) | (refine ⟨⟨rfl, rfl, nle rfl, nle rfl⟩, ?_⟩; conv => whnf) | fail)
        repeat (refine ⟨⟨rfl, rfl, nle rfl, nle rfl⟩, ?_⟩; conv => whnf)
        repeat (first | ((with_reducible first | apply ga | apply gb | apply gc | apply gd | apply ge | apply gf | apply gg | apply gh | apply gi | apply gj); conv => whnf) | (refine ⟨⟨rfl, rfl, nle rfl, nle rfl⟩, ?_⟩; conv => whnf) | fail)
        exact ⟨_, _, ⟨rfl, rfl⟩, SubS.mkK [] rfl ⟨⟨_, rfl, VLe.int hw⟩, trivial⟩ ⟨.inl ⟨_, _, rfl, rfl, rfl, rfLe rfl rfl rfl rfl .same .same .same .same⟩, trivial⟩⟩
end Go.Proofs.Ytioccpodnkllfaa

namespace Go.Proofs.Ytioccpodnkllfaa
open Go Go.AM
attribute [local irreducible] AWP CallK PureCall SubS HeapCall HeapCallP HeapCallK
theorem wordE_ne {L : List Nat} {a m p e : Nat} (h : wordE L a m = some (p, e)) : e ≠ 0 := by
  rcases wordE_cases L a m with ⟨_, c⟩ | ⟨_, _, c⟩ | ⟨_, _, _, c⟩ | ⟨_, _, _, c⟩ <;> rw [c] at h <;> cases h <;> decide
def bkPost (L : List Nat) (a : Nat) (last : Int) (r : AV) (Hout : List (Nat × AO)) : Prop :=
  ∃ (b : BankR) (a' p e : Nat), r = b.av ∧ inI64 b.num ∧ Hout = [(100, rfO L a' p e)] ∧ ((e = 0 ∧ p = 0 ∧ bankA L a last = .ok (b, a')) ∨ (e ≠ 0 ∧ bankA L a last = .error (p, e)))
set_option maxHeartbeats 4000000 in
theorem f57 (L : List Nat) (hL : BtB L) (a : Nat) (ha : a ≤ L.length) (last : Int) : HeapCallK Try.prog 57 [.ptr 100 0 4 0 0, i64 last] [(100, rfO L a 0 0)]
    (bkPost L a last) (fun _ _ => False) := by
  have hl := hL.1
  have hwv : ∀ a m : Nat, m < 65536 → 0 ≤ wv L a m ∧ wv L a m ≤ m := fun a m hm => by
    unfold wv
    cases hE : wordE L a m with
    | none => have := (wordE_none hE).2; dsimp only; omega
    | some x => dsimp only; omega
  refine HeapCallK.body tab_ok (by kernel_rfl) Try.func57 rfl rfl rfl ?_
  refine awp_piece tab_ok mixed ?_
  conv => whnf
  repeat (first | ((with_reducible first | apply ga | apply gb | apply gc | apply gd | apply ge | apply gf | apply gg | apply gh | apply gi | apply gj); conv => whnf) | (refine ⟨⟨rfl, rfl, nle rfl, nle rfl⟩, ?_⟩; conv => whnf) | fail)
  refine awp_piece tab_ok mixed ?_
  conv => whnf
  repeat (first | ((with_reducible first | apply ga | apply gb | apply gc | apply gd | apply ge | apply gf | apply gg | apply gh | apply gi | apply gj); conv => whnf) | (refine ⟨⟨rfl, rfl, nle rfl, nle rfl⟩, ?_⟩; conv => whnf) | fail)
  repeat (refine ⟨⟨rfl, rfl, nle rfl, nle rfl⟩, ?_⟩; conv => whnf)
  repeat (first | ((with_reducible first | apply ga | apply gb | apply gc | apply gd | apply ge | apply gf | apply gg | apply gh | apply gi | apply gj); conv => whnf) | (refine ⟨⟨rfl, rfl, nle rfl, nle rfl⟩, ?_⟩; conv => whnf) | fail)
  refine awp_piece tab_ok mixed ?_
  conv => whnf
  repeat (first | ((with_reducible first | apply ga | apply gb | apply gc | apply gd | apply ge | apply gf | apply gg | apply gh | apply gi | apply gj); conv => whnf) | (refine ⟨⟨rfl, rfl, nle rfl, nle rfl⟩, ?_⟩; conv => whnf) | fail)
  refine CallK.heapK (f56 L hL a 35 ha (by decide)) [] [(100, 100)] rfl rfl rfl ⟨.ptr _ _ _ _ _ _ _ _ _ rfl rfl rfl rfl, .same, trivial⟩ ⟨.inl ⟨_, _, rfl, rfl, rfl, rfLe rfl rfl rfl rfl .same .same .same .same⟩, trivial⟩ 2000 rfl ?_ (fun _ _ h => h.elim)
  rintro _ _ ⟨rfl, rfl⟩
  conv => whnf
  repeat (first | ((with_reducible first | apply ga | apply gb | apply gc | apply gd | apply ge | apply gf | apply gg | apply gh | apply gi | apply gj); conv => whnf) | (refine ⟨⟨rfl, rfl, nle rfl, nle rfl⟩, ?_⟩; conv => whnf) | fail)
  refine awp_cut (α := Nat × Nat × Nat × Nat)
    (fun x => mkStK 68 [(0, .ptr 100 0 4 0 0), (4, .ptr 4 0 2 0 0), (5, i64 a), (6, .ptr 6 0 2 0 0)] [(100, rfO L x.2.1 x.2.2.1 x.2.2.2), (4, bkO 0 .nilS), (6, bkO x.1 .nilS)] [100])
    (fun x => (x.2.2.2 = 0 ∧ x.2.2.1 = 0 ∧ wordE L a 35 = none ∧ x.1 = lo (wordS L a) ∧ ¬ ((x.1 : Nat) : Int) ≤ last ∧ x.2.1 = a + 2) ∨ (x.1 ≤ 35 ∧ x.2.2.2 ≠ 0 ∧ bankA L a last = .error x.2.2)) (fun K hK => ?_) ?_
  · cases hE : wordE L a 35 with
    | some x =>
      obtain ⟨p, e⟩ := x
      have he := wordE_ne hE
      have e1 : wv L a 35 = ((0 : Nat) : Int) := by unfold wv; rw [hE]; rfl
      have e2 : wr L a 35 = rfO L a p e := by unfold wr; rw [hE]
      rw [e1, e2]
      refine awp_last tab_ok mixed ?_
      conv => whnf
      repeat (first | ((with_reducible first | apply ga | apply gb | apply gc | apply gd | apply ge | apply gf | apply gg | apply gh | apply gi | apply gj); conv => whnf) | (refine ⟨⟨rfl, rfl, nle rfl, nle rfl⟩, ?_⟩; conv => whnf) | fail)
      repeat (refine ⟨⟨rfl, rfl, nle rfl, nle rfl⟩, ?_⟩; conv => whnf)
      repeat (first | ((with_reducible first | apply ga | apply gb | apply gc | apply gd | apply ge | apply gf | apply gg | apply gh | apply gi | apply gj); conv => whnf) | (refine ⟨⟨rfl, rfl, nle rfl, nle rfl⟩, ?_⟩; conv => whnf) | fail)
      have he' : ((e : Int) == 0) = false := beq_eq_false_iff_ne.mpr (by omega)
      refine ⟨fun h => absurd h (by rw [he']; decide), fun _ => ?_⟩
      conv => whnf
      repeat (first | ((with_reducible first | apply ga | apply gb | apply gc | apply gd | apply ge | apply gf | apply gg | apply gh | apply gi | apply gj); conv => whnf) | (refine ⟨⟨rfl, rfl, nle rfl, nle rfl⟩, ?_⟩; conv => whnf) | fail)
      refine hK _ (0, a, p, e) (.inr ⟨Nat.zero_le _, he, by unfold bankA; rw [hE]⟩) (SubS.mkNK [] [(100, 100), (4, 4), (6, 6)] rfl rfl rfl ⟨⟨_, rfl, .ptr _ _ _ _ _ _ _ _ _ rfl rfl rfl rfl⟩, ⟨_, rfl, .ptr _ _ _ _ _ _ _ _ _ rfl rfl rfl rfl⟩, ⟨_, rfl, .same⟩, ⟨_, rfl, .ptr _ _ _ _ _ _ _ _ _ rfl rfl rfl rfl⟩, trivial⟩
            ⟨.inl ⟨_, _, rfl, rfl, rfl, rfLe rfl rfl rfl rfl .same .same .same .same⟩, .inl ⟨_, _, rfl, rfl, rfl, bkLe rfl rfl rfl rfl .same .nils⟩, .inl ⟨_, _, rfl, rfl, rfl, bkLe rfl rfl rfl rfl .same .nils⟩, trivial⟩)
    | none =>
      have hE1 := wordE_none hE
      have e1 : wv L a 35 = (lo (wordS L a) : Nat) := by unfold wv; rw [hE]
      have e2 : wr L a 35 = rfO L (a + 2 : Nat) 0 0 := by unfold wr; rw [hE]
      rw [e1, e2]
      refine awp_last tab_ok mixed ?_
      conv => whnf
      repeat (first | ((with_reducible first | apply ga | apply gb | apply gc | apply gd | apply ge | apply gf | apply gg | apply gh | apply gi | apply gj); conv => whnf) | (refine ⟨⟨rfl, rfl, nle rfl, nle rfl⟩, ?_⟩; conv => whnf) | fail)
      repeat (refine ⟨⟨rfl, rfl, nle rfl, nle rfl⟩, ?_⟩; conv => whnf)
      repeat (first | ((with_reducible first | apply ga | apply gb | apply gc | apply gd | apply ge | apply gf | apply gg | apply gh | apply gi | apply gj); conv => whnf) | (refine ⟨⟨rfl, rfl, nle rfl, nle rfl⟩, ?_⟩; conv => whnf) | fail)
      refine ⟨fun _ => ?_, fun h => absurd h (by simp)⟩
      conv => whnf
      repeat (first | ((with_reducible first | apply ga | apply gb | apply gc | apply gd | apply ge | apply gf | apply gg | apply gh | apply gi | apply gj); conv => whnf) | (refine ⟨⟨rfl, rfl, nle rfl, nle rfl⟩, ?_⟩; conv => whnf) | fail)
      repeat (refine ⟨⟨rfl, rfl, nle rfl, nle rfl⟩, ?_⟩; conv => whnf)
      repeat (first | ((with_reducible first | apply ga | apply gb | apply gc | apply gd | apply ge | apply gf | apply gg | apply gh | apply gi | apply gj); conv => whnf) | (refine ⟨⟨rfl, rfl, nle rfl, nle rfl⟩, ?_⟩; conv => whnf) | fail)
      refine ⟨fun h1 => ?_, fun h1 => ?_⟩ <;> replace h1 := nm h1 <;> (try rw [Int.toNat_zero] at h1) <;> (try rw [Int.toNat_one] at h1)
      · conv => whnf
        repeat (first | ((with_reducible first | apply ga | apply gb | apply gc | apply gd | apply ge | apply gf | apply gg | apply gh | apply gi | apply gj); conv => whnf) | (refine ⟨⟨rfl, rfl, nle rfl, nle rfl⟩, ?_⟩; conv => whnf) | fail)
        repeat (refine ⟨⟨rfl, rfl, nle rfl, nle rfl⟩, ?_⟩; conv => whnf)
        repeat (first | ((with_reducible first | apply ga | apply gb | apply gc | apply gd | apply ge | apply gf | apply gg | apply gh | apply gi | apply gj); conv => whnf) | (refine ⟨⟨rfl, rfl, nle rfl, nle rfl⟩, ?_⟩; conv => whnf) | fail)
        refine CallK.heapK (f55 L (a + 2 : Nat) 0 a 5) [] [(100, 100)] rfl rfl rfl ⟨.ptr _ _ _ _ _ _ _ _ _ rfl rfl rfl rfl, .same, .same, trivial⟩ ⟨.inl ⟨_, _, rfl, rfl, rfl, rfLe rfl rfl rfl rfl .same .same .same .same⟩, trivial⟩ 3000 rfl ?_ (fun _ _ h => h.elim)
        rintro _ _ ⟨rfl, rfl⟩
        conv => whnf
        repeat (first | ((with_reducible first | apply ga | apply gb | apply gc | apply gd | apply ge | apply gf | apply gg | apply gh | apply gi | apply gj); conv => whnf) | (refine ⟨⟨rfl, rfl, nle rfl, nle rfl⟩, ?_⟩; conv => whnf) | fail)
        refine hK _ (lo (wordS L a), a + 2, a, 5) (.inr ⟨hE1.2, show (5 : Nat) ≠ 0 by decide, by unfold bankA; rw [hE]; dsimp only; rw [if_pos h1]⟩) (SubS.mkNK [] [(100, 100), (4, 4), (6, 6)] rfl rfl rfl ⟨⟨_, rfl, .ptr _ _ _ _ _ _ _ _ _ rfl rfl rfl rfl⟩, ⟨_, rfl, .ptr _ _ _ _ _ _ _ _ _ rfl rfl rfl rfl⟩, ⟨_, rfl, .same⟩, ⟨_, rfl, .ptr _ _ _ _ _ _ _ _ _ rfl rfl rfl rfl⟩, trivial⟩
            ⟨.inl ⟨_, _, rfl, rfl, rfl, rfLe rfl rfl rfl rfl .same .same .same .same⟩, .inl ⟨_, _, rfl, rfl, rfl, bkLe rfl rfl rfl rfl .same .nils⟩, .inl ⟨_, _, rfl, rfl, rfl, bkLe rfl rfl rfl rfl .same .nils⟩, trivial⟩)
      · conv => whnf
        repeat (first | ((with_reducible first | apply ga | apply gb | apply gc | apply gd | apply ge | apply gf | apply gg | apply gh | apply gi | apply gj); conv => whnf) | (refine ⟨⟨rfl, rfl, nle rfl, nle rfl⟩, ?_⟩; conv => whnf) | fail)
        refine hK _ (lo (wordS L a), a + 2, 0, 0) (.inl ⟨rfl, rfl, hE, rfl, by dsimp only; omega, rfl⟩) (SubS.mkNK [] [(100, 100), (4, 4), (6, 6)] rfl rfl rfl ⟨⟨_, rfl, .ptr _ _ _ _ _ _ _ _ _ rfl rfl rfl rfl⟩, ⟨_, rfl, .ptr _ _ _ _ _ _ _ _ _ rfl rfl rfl rfl⟩, ⟨_, rfl, .same⟩, ⟨_, rfl, .ptr _ _ _ _ _ _ _ _ _ rfl rfl rfl rfl⟩, trivial⟩
            ⟨.inl ⟨_, _, rfl, rfl, rfl, rfLe rfl rfl rfl rfl .same .same .same .same⟩, .inl ⟨_, _, rfl, rfl, rfl, bkLe rfl rfl rfl rfl .same .nils⟩, .inl ⟨_, _, rfl, rfl, rfl, bkLe rfl rfl rfl rfl .same .nils⟩, trivial⟩)
  · rintro ⟨num, a1, p, e⟩ hF
    dsimp only at hF ⊢
    -- the number of words
    refine awp_cut (α := Nat × Nat × Nat × Nat)
      (fun x => mkStK 68 [(0, .ptr 100 0 4 0 0), (4, .ptr 4 0 2 0 0), (5, i64 a), (6, .ptr 6 0 2 0 0), (7, i64 x.1)] [(100, rfO L x.2.1 x.2.2.1 x.2.2.2), (4, bkO 0 .nilS), (6, bkO num .nilS)] [100])
      (fun x => num ≤ 35 ∧ (x.2.2.2 = 0 ∧ x.2.2.1 = 0 ∧ a + 4 ≤ L.length ∧ x.1 ≤ 1024 ∧ x.2.1 = a + 4 ∧ bankA L a last = (match wordsA L (a + 4) x.1 [] with
        | .error e => .error e
        | .ok ws => if sealedB ⟨num, ws⟩ = false then .error (a, 10) else .ok (⟨num, ws⟩, a + 4 + 2 * x.1))) ∨ (num ≤ 35 ∧ x.1 = 0 ∧ x.2.2.2 ≠ 0 ∧ bankA L a last = .error x.2.2)) (fun K hK => ?_) ?_
    · refine awp_last tab_ok mixed ?_
      rcases hF with ⟨rfl, rfl, hE, rfl, h1, rfl⟩ | ⟨hnum, he, hbk⟩
      · have hE1 := wordE_none hE
        conv => whnf
        repeat (first | ((with_reducible first | apply ga | apply gb | apply gc | apply gd | apply ge | apply gf | apply gg | apply gh | apply gi | apply gj); conv => whnf) | (refine ⟨⟨rfl, rfl, nle rfl, nle rfl⟩, ?_⟩; conv => whnf) | fail)
        refine CallK.heapK (f56 L hL (a + 2) 1024 (by omega) (by decide)) [] [(100, 100)] rfl rfl rfl ⟨.ptr _ _ _ _ _ _ _ _ _ rfl rfl rfl rfl, .same, trivial⟩ ⟨.inl ⟨_, _, rfl, rfl, rfl, rfLe rfl rfl rfl rfl .same .same .same .same⟩, trivial⟩ 2000 rfl ?_ (fun _ _ h => h.elim)
        rintro _ _ ⟨rfl, rfl⟩
        cases hG : wordE L (a + 2) 1024 with
        | some x =>
          obtain ⟨p, e⟩ := x
          have he := wordE_ne hG
          have e1 : wv L (a + 2) 1024 = ((0 : Nat) : Int) := by unfold wv; rw [hG]; rfl
          have e2 : wr L (a + 2) 1024 = rfO L (a + 2 : Nat) p e := by unfold wr; rw [hG]
          rw [e1, e2]
          conv => whnf
          repeat (first | ((with_reducible first | apply ga | apply gb | apply gc | apply gd | apply ge | apply gf | apply gg | apply gh | apply gi | apply gj); conv => whnf) | (refine ⟨⟨rfl, rfl, nle rfl, nle rfl⟩, ?_⟩; conv => whnf) | fail)
          refine hK _ (0, a + 2, p, e) (.inr ⟨hE1.2, rfl, he, by unfold bankA; rw [hE]; dsimp only; rw [if_neg h1, hG]⟩) (SubS.mkNK [] [(100, 100), (4, 4), (6, 6)] rfl rfl rfl ⟨⟨_, rfl, .ptr _ _ _ _ _ _ _ _ _ rfl rfl rfl rfl⟩, ⟨_, rfl, .ptr _ _ _ _ _ _ _ _ _ rfl rfl rfl rfl⟩, ⟨_, rfl, .same⟩, ⟨_, rfl, .ptr _ _ _ _ _ _ _ _ _ rfl rfl rfl rfl⟩, ⟨_, rfl, .same⟩, trivial⟩
            ⟨.inl ⟨_, _, rfl, rfl, rfl, rfLe rfl rfl rfl rfl .same .same .same .same⟩, .inl ⟨_, _, rfl, rfl, rfl, bkLe rfl rfl rfl rfl .same .nils⟩, .inl ⟨_, _, rfl, rfl, rfl, bkLe rfl rfl rfl rfl .same .nils⟩, trivial⟩)
        | none =>
          have hG1 := wordE_none hG
          have e1 : wv L (a + 2) 1024 = (lo (wordS L (a + 2)) : Nat) := by unfold wv; rw [hG]
          have e2 : wr L (a + 2) 1024 = rfO L (a + 4 : Nat) 0 0 := by unfold wr; rw [hG]
          rw [e1, e2]
          conv => whnf
          repeat (first | ((with_reducible first | apply ga | apply gb | apply gc | apply gd | apply ge | apply gf | apply gg | apply gh | apply gi | apply gj); conv => whnf) | (refine ⟨⟨rfl, rfl, nle rfl, nle rfl⟩, ?_⟩; conv => whnf) | fail)
          refine hK _ (lo (wordS L (a + 2)), a + 4, 0, 0) (.inl ⟨hE1.2, rfl, rfl, by omega, hG1.2, rfl, by unfold bankA; rw [hE]; dsimp only; rw [if_neg h1, hG]; rfl⟩) (SubS.mkNK [] [(100, 100), (4, 4), (6, 6)] rfl rfl rfl ⟨⟨_, rfl, .ptr _ _ _ _ _ _ _ _ _ rfl rfl rfl rfl⟩, ⟨_, rfl, .ptr _ _ _ _ _ _ _ _ _ rfl rfl rfl rfl⟩, ⟨_, rfl, .same⟩, ⟨_, rfl, .ptr _ _ _ _ _ _ _ _ _ rfl rfl rfl rfl⟩, ⟨_, rfl, .same⟩, trivial⟩
            ⟨.inl ⟨_, _, rfl, rfl, rfl, rfLe rfl rfl rfl rfl .same .same .same .same⟩, .inl ⟨_, _, rfl, rfl, rfl, bkLe rfl rfl rfl rfl .same .nils⟩, .inl ⟨_, _, rfl, rfl, rfl, bkLe rfl rfl rfl rfl .same .nils⟩, trivial⟩)
      · conv => whnf
        repeat (first | ((with_reducible first | apply ga | apply gb | apply gc | apply gd | apply ge | apply gf | apply gg | apply gh | apply gi | apply gj); conv => whnf) | (refine ⟨⟨rfl, rfl, nle rfl, nle rfl⟩, ?_⟩; conv => whnf) | fail)
        refine CallK.heapK (f56' L a1 p e 1024 (by omega)) [] [(100, 100)] rfl rfl rfl ⟨.ptr _ _ _ _ _ _ _ _ _ rfl rfl rfl rfl, .same, trivial⟩ ⟨.inl ⟨_, _, rfl, rfl, rfl, rfLe rfl rfl rfl rfl .same .same .same .same⟩, trivial⟩ 2000 rfl ?_ (fun _ _ h => h.elim)
        rintro _ _ ⟨rfl, rfl⟩
        conv => whnf
        repeat (first | ((with_reducible first | apply ga | apply gb | apply gc | apply gd | apply ge | apply gf | apply gg | apply gh | apply gi | apply gj); conv => whnf) | (refine ⟨⟨rfl, rfl, nle rfl, nle rfl⟩, ?_⟩; conv => whnf) | fail)
        refine hK _ (0, a1, p, e) (.inr ⟨hnum, rfl, he, hbk⟩) (SubS.mkNK [] [(100, 100), (4, 4), (6, 6)] rfl rfl rfl ⟨⟨_, rfl, .ptr _ _ _ _ _ _ _ _ _ rfl rfl rfl rfl⟩, ⟨_, rfl, .ptr _ _ _ _ _ _ _ _ _ rfl rfl rfl rfl⟩, ⟨_, rfl, .same⟩, ⟨_, rfl, .ptr _ _ _ _ _ _ _ _ _ rfl rfl rfl rfl⟩, ⟨_, rfl, .same⟩, trivial⟩
            ⟨.inl ⟨_, _, rfl, rfl, rfl, rfLe rfl rfl rfl rfl .same .same .same .same⟩, .inl ⟨_, _, rfl, rfl, rfl, bkLe rfl rfl rfl rfl .same .nils⟩, .inl ⟨_, _, rfl, rfl, rfl, bkLe rfl rfl rfl rfl .same .nils⟩, trivial⟩)
    · rintro ⟨n, a1, p, e⟩ hF
      dsimp only at hF ⊢
      refine awp_cut (α := Nat × List Nat × Nat × Nat × Nat)
        (fun x => mkStK 68 [(0, .ptr 100 0 4 0 0), (4, .ptr 4 0 2 0 0), (5, i64 a), (6, .ptr 6 0 2 0 0)] [(100, rfO L x.2.2.1 x.2.2.2.1 x.2.2.2.2), (4, bkO 0 .nilS), (6, bkO num (.row 1000 x.1 1 0 x.2.1.length)), (1000, rowA 39 1 wcell 0 x.1 x.2.1)] [100])
        (fun x => (num ≤ 35 ∧ x.2.1.length ≤ 1024 ∧ ∀ y ∈ x.2.1, y < 65536) ∧ ((x.2.2.2.2 = 0 ∧ x.2.2.2.1 = 0 ∧ bankA L a last = (if sealedB ⟨num, x.2.1⟩ = false then .error (a, 10) else .ok (⟨num, x.2.1⟩, x.2.2.1))) ∨ (x.2.2.2.2 ≠ 0 ∧ bankA L a last = .error x.2.2.2))) (fun K hK => ?_) ?_
      · refine awp_piece tab_ok mixed ?_
        conv => whnf
        repeat (first | ((with_reducible first | apply ga | apply gb | apply gc | apply gd | apply ge | apply gf | apply gg | apply gh | apply gi | apply gj); conv => whnf) | (refine ⟨⟨rfl, rfl, nle rfl, nle rfl⟩, ?_⟩; conv => whnf) | fail)
        refine awp_block (awp_loopI (fun x : Nat × Nat × List Nat × Nat × Nat × Nat => (num ≤ 35 ∧ n ≤ 1024 ∧ x.1 ≤ n ∧ x.2.2.1.length ≤ x.1 ∧ ∀ y ∈ x.2.2.1, y < 65536) ∧
              ((x.2.2.2.2.2 = 0 ∧ x.2.2.2.2.1 = 0 ∧ x.2.2.2.1 = a + 4 + 2 * x.1 ∧ x.2.2.2.1 ≤ L.length ∧ bankA L a last = (match wordsA L x.2.2.2.1 (n - x.1) x.2.2.1 with
                | .error e => .error e
                | .ok ws => if sealedB ⟨num, ws⟩ = false then .error (a, 10) else .ok (⟨num, ws⟩, a + 4 + 2 * n))) ∨ (x.2.2.2.2.2 ≠ 0 ∧ bankA L a last = .error x.2.2.2.2)))
          (fun x => mkStK 68 [(0, .ptr 100 0 4 0 0), (4, .ptr 4 0 2 0 0), (5, i64 a), (6, .ptr 6 0 2 0 0), (7, i64 n), (8, i64 x.1)] [(100, rfO L x.2.2.2.1 x.2.2.2.2.1 x.2.2.2.2.2), (4, bkO 0 .nilS), (6, bkO num (.row 1000 x.2.1 1 0 x.2.2.1.length)), (1000, rowA 39 1 wcell 0 x.2.1 x.2.2.1)] [100])
          (fun x => n - x.1) (0, 0, [], a1, p, e) ?_
          (SubS.mkNK [] [(100, 100), (4, 4), (6, 6)] rfl rfl rfl ⟨⟨_, rfl, .ptr _ _ _ _ _ _ _ _ _ rfl rfl rfl rfl⟩, ⟨_, rfl, .ptr _ _ _ _ _ _ _ _ _ rfl rfl rfl rfl⟩, ⟨_, rfl, .same⟩, ⟨_, rfl, .ptr _ _ _ _ _ _ _ _ _ rfl rfl rfl rfl⟩, ⟨_, rfl, .same⟩, ⟨_, rfl, .same⟩, trivial⟩
            ⟨.inl ⟨_, _, rfl, rfl, rfl, rfLe rfl rfl rfl rfl .same .same .same .same⟩, .inl ⟨_, _, rfl, rfl, rfl, bkLe rfl rfl rfl rfl .same .nils⟩, .inl ⟨_, _, rfl, rfl, rfl, bkLe rfl rfl rfl rfl .same (.void _ _ _)⟩, .inr (.inl ⟨rfl, rfl⟩), trivial⟩) ?_)
        · rcases hF with ⟨h0, rfl, rfl, h1, h2, rfl, h3⟩ | ⟨h0, rfl, h1, h2⟩
          · exact ⟨⟨h0, h2, Nat.zero_le _, Nat.le_refl _, fun y hy => by cases hy⟩, .inl ⟨rfl, rfl, rfl, h1, h3⟩⟩
          · exact ⟨⟨h0, Nat.zero_le _, Nat.zero_le _, Nat.le_refl _, fun y hy => by cases hy⟩, .inr ⟨h1, h2⟩⟩
        clear hF
        rintro ⟨k, g, acc, a2, p, e⟩ ⟨⟨hnum, hn, hk, hal, hab⟩, hF⟩
        dsimp only at hk hal hab hF ⊢
        refine awp_piece tab_ok mixed ?_
        rcases hF with ⟨rfl, rfl, rfl, ha2, hI⟩ | ⟨he, hI⟩
        · conv => whnf
          repeat (first | ((with_reducible first | apply ga | apply gb | apply gc | apply gd | apply ge | apply gf | apply gg | apply gh | apply gi | apply gj); conv => whnf) | (refine ⟨⟨rfl, rfl, nle rfl, nle rfl⟩, ?_⟩; conv => whnf) | fail)
          refine ⟨fun hc => ?_, fun hc => ?_⟩ <;> replace hc := nm hc <;> (try rw [Int.toNat_zero] at hc) <;> (try rw [Int.toNat_one] at hc)
          · have hlt : k < n := by omega
            rw [show n - k = (n - (k + 1)) + 1 by omega, wordsA] at hI
            conv => whnf
            repeat (first | ((with_reducible first | apply ga | apply gb | apply gc | apply gd | apply ge | apply gf | apply gg | apply gh | apply gi | apply gj); conv => whnf) | (refine ⟨⟨rfl, rfl, nle rfl, nle rfl⟩, ?_⟩; conv => whnf) | fail)
            repeat (refine ⟨⟨rfl, rfl, nle rfl, nle rfl⟩, ?_⟩; conv => whnf)
            repeat (first | ((with_reducible first | apply ga | apply gb | apply gc | apply gd | apply ge | apply gf | apply gg | apply gh | apply gi | apply gj); conv => whnf) | (refine ⟨⟨rfl, rfl, nle rfl, nle rfl⟩, ?_⟩; conv => whnf) | fail)
            refine ⟨fun _ => ?_, fun h => absurd h (by simp)⟩
            conv => whnf
            repeat (first | ((with_reducible first | apply ga | apply gb | apply gc | apply gd | apply ge | apply gf | apply gg | apply gh | apply gi | apply gj); conv => whnf) | (refine ⟨⟨rfl, rfl, nle rfl, nle rfl⟩, ?_⟩; conv => whnf) | fail)
            refine awp_seq (awp_block ?_)
            refine awp_piece tab_ok mixed ?_
            conv => whnf
            repeat (first | ((with_reducible first | apply ga | apply gb | apply gc | apply gd | apply ge | apply gf | apply gg | apply gh | apply gi | apply gj); conv => whnf) | (refine ⟨⟨rfl, rfl, nle rfl, nle rfl⟩, ?_⟩; conv => whnf) | fail)
            refine CallK.heapK (f56 L hL (a + 4 + 2 * k) 32767 (by omega) (by decide)) [] [(100, 100)] rfl rfl rfl ⟨.ptr _ _ _ _ _ _ _ _ _ rfl rfl rfl rfl, .same, trivial⟩ ⟨.inl ⟨_, _, rfl, rfl, rfl, rfLe rfl rfl rfl rfl .same .same .same .same⟩, trivial⟩ 2000 rfl ?_ (fun _ _ h => h.elim)
            rintro _ _ ⟨rfl, rfl⟩
            cases hG : wordE L (a + 4 + 2 * k) 32767 with
            | some x =>
              obtain ⟨p, e⟩ := x
              have he := wordE_ne hG
              have e1 : wv L (a + 4 + 2 * k) 32767 = ((0 : Nat) : Int) := by unfold wv; rw [hG]; rfl
              have e2 : wr L (a + 4 + 2 * k) 32767 = rfO L (a + 4 + 2 * k : Nat) p e := by unfold wr; rw [hG]
              rw [e1, e2]
              rw [hG] at hI
              conv => whnf
              repeat (first | ((with_reducible first | apply ga | apply gb | apply gc | apply gd | apply ge | apply gf | apply gg | apply gh | apply gi | apply gj); conv => whnf) | (refine ⟨⟨rfl, rfl, nle rfl, nle rfl⟩, ?_⟩; conv => whnf) | fail)
              refine awp_last tab_ok mixed ?_
              conv => whnf
              repeat (first | ((with_reducible first | apply ga | apply gb | apply gc | apply gd | apply ge | apply gf | apply gg | apply gh | apply gi | apply gj); conv => whnf) | (refine ⟨⟨rfl, rfl, nle rfl, nle rfl⟩, ?_⟩; conv => whnf) | fail)
              refine ⟨⟨⟨rfl, rfl, rfl, nle rfl⟩, rfl, rfl, rfl, rfl, rfl, rfl, by show (acc.length + 1) * 2 ≤ _; omega⟩, ?_⟩
              conv => whnf
              repeat (first | ((with_reducible first | apply ga | apply gb | apply gc | apply gd | apply ge | apply gf | apply gg | apply gh | apply gi | apply gj); conv => whnf) | (refine ⟨⟨rfl, rfl, nle rfl, nle rfl⟩, ?_⟩; conv => whnf) | fail)
              refine awp_last tab_ok mixed ?_
              conv => whnf
              repeat (first | ((with_reducible first | apply ga | apply gb | apply gc | apply gd | apply ge | apply gf | apply gg | apply gh | apply gi | apply gj); conv => whnf) | (refine ⟨⟨rfl, rfl, nle rfl, nle rfl⟩, ?_⟩; conv => whnf) | fail)
              refine ⟨⟨by unfold inI64; omega⟩, ?_⟩
              conv => whnf
              repeat (first | ((with_reducible first | apply ga | apply gb | apply gc | apply gd | apply ge | apply gf | apply gg | apply gh | apply gi | apply gj); conv => whnf) | (refine ⟨⟨rfl, rfl, nle rfl, nle rfl⟩, ?_⟩; conv => whnf) | fail)
              refine ⟨(k + 1, g + 1, acc ++ [0], a + 4 + 2 * k, p, e), ⟨⟨hnum, hn, hlt, by dsimp only; rw [List.length_append]; simp; omega, fun y hy => ?_⟩, .inr ⟨he, hI⟩⟩, SubS.mkNK [] [(100, 100), (4, 4), (6, 6), (1000, 1000)] rfl rfl rfl ⟨⟨_, rfl, .ptr _ _ _ _ _ _ _ _ _ rfl rfl rfl rfl⟩, ⟨_, rfl, .ptr _ _ _ _ _ _ _ _ _ rfl rfl rfl rfl⟩, ⟨_, rfl, .same⟩, ⟨_, rfl, .ptr _ _ _ _ _ _ _ _ _ rfl rfl rfl rfl⟩, ⟨_, rfl, .same⟩, ⟨_, rfl, .same⟩, trivial⟩
                ⟨.inl ⟨_, _, rfl, rfl, rfl, rfLe rfl rfl rfl rfl .same .same .same .same⟩, .inl ⟨_, _, rfl, rfl, rfl, bkLe rfl rfl rfl rfl .same .nils⟩, .inl ⟨_, _, rfl, rfl, rfl, bkLe rfl rfl rfl rfl .same (.row _ _ _ _ _ _ _ _ _ rfl rfl rfl (by simp))⟩, .inl ⟨_, _, rfl, rfl, rfl, OLe.snocA rfl rfl rfl rfl rfl fun j hj => ?_⟩, trivial⟩, by dsimp only; omega⟩
              · rcases List.mem_append.mp hy with hy | hy
                · exact hab y hy
                · rw [List.mem_singleton] at hy; subst hy; omega
              · have hj0 : j = 0 := Nat.lt_one_iff.mp hj
                subst hj0
                exact VLe.int (wn16 (by omega) (by omega))
            | none =>
              have hG1 := wordE_none hG
              have e1 : wv L (a + 4 + 2 * k) 32767 = (lo (wordS L (a + 4 + 2 * k)) : Nat) := by unfold wv; rw [hG]
              have e2 : wr L (a + 4 + 2 * k) 32767 = rfO L (a + 4 + 2 * k + 2 : Nat) 0 0 := by unfold wr; rw [hG]
              rw [e1, e2]
              rw [hG] at hI
              conv => whnf
              repeat (first | ((with_reducible first | apply ga | apply gb | apply gc | apply gd | apply ge | apply gf | apply gg | apply gh | apply gi | apply gj); conv => whnf) | (refine ⟨⟨rfl, rfl, nle rfl, nle rfl⟩, ?_⟩; conv => whnf) | fail)
              refine awp_last tab_ok mixed ?_
              conv => whnf
              repeat (first | ((with_reducible first | apply ga | apply gb | apply gc | apply gd | apply ge | apply gf | apply gg | apply gh | apply gi | apply gj); conv => whnf) | (refine ⟨⟨rfl, rfl, nle rfl, nle rfl⟩, ?_⟩; conv => whnf) | fail)
              refine ⟨⟨⟨rfl, rfl, rfl, nle rfl⟩, rfl, rfl, rfl, rfl, rfl, rfl, by show (acc.length + 1) * 2 ≤ _; omega⟩, ?_⟩
              conv => whnf
              repeat (first | ((with_reducible first | apply ga | apply gb | apply gc | apply gd | apply ge | apply gf | apply gg | apply gh | apply gi | apply gj); conv => whnf) | (refine ⟨⟨rfl, rfl, nle rfl, nle rfl⟩, ?_⟩; conv => whnf) | fail)
              refine awp_last tab_ok mixed ?_
              conv => whnf
              repeat (first | ((with_reducible first | apply ga | apply gb | apply gc | apply gd | apply ge | apply gf | apply gg | apply gh | apply gi | apply gj); conv => whnf) | (refine ⟨⟨rfl, rfl, nle rfl, nle rfl⟩, ?_⟩; conv => whnf) | fail)
              refine ⟨⟨by unfold inI64; omega⟩, ?_⟩
              conv => whnf
              repeat (first | ((with_reducible first | apply ga | apply gb | apply gc | apply gd | apply ge | apply gf | apply gg | apply gh | apply gi | apply gj); conv => whnf) | (refine ⟨⟨rfl, rfl, nle rfl, nle rfl⟩, ?_⟩; conv => whnf) | fail)
              refine ⟨(k + 1, g + 1, acc ++ [lo (wordS L (a + 4 + 2 * k))], a + 4 + 2 * k + 2, 0, 0), ⟨⟨hnum, hn, hlt, by dsimp only; rw [List.length_append]; simp; omega, fun y hy => ?_⟩, .inl ⟨rfl, rfl, by dsimp only; omega, hG1.1, hI⟩⟩, SubS.mkNK [] [(100, 100), (4, 4), (6, 6), (1000, 1000)] rfl rfl rfl ⟨⟨_, rfl, .ptr _ _ _ _ _ _ _ _ _ rfl rfl rfl rfl⟩, ⟨_, rfl, .ptr _ _ _ _ _ _ _ _ _ rfl rfl rfl rfl⟩, ⟨_, rfl, .same⟩, ⟨_, rfl, .ptr _ _ _ _ _ _ _ _ _ rfl rfl rfl rfl⟩, ⟨_, rfl, .same⟩, ⟨_, rfl, .same⟩, trivial⟩
                ⟨.inl ⟨_, _, rfl, rfl, rfl, rfLe rfl rfl rfl rfl .same .same .same .same⟩, .inl ⟨_, _, rfl, rfl, rfl, bkLe rfl rfl rfl rfl .same .nils⟩, .inl ⟨_, _, rfl, rfl, rfl, bkLe rfl rfl rfl rfl .same (.row _ _ _ _ _ _ _ _ _ rfl rfl rfl (by simp))⟩, .inl ⟨_, _, rfl, rfl, rfl, OLe.snocA rfl rfl rfl rfl rfl fun j hj => ?_⟩, trivial⟩, by dsimp only; omega⟩
              · rcases List.mem_append.mp hy with hy | hy
                · exact hab y hy
                · rw [List.mem_singleton] at hy; subst hy; omega
              · have hj0 : j = 0 := Nat.lt_one_iff.mp hj
                subst hj0
                exact VLe.int (wn16 (by omega) (by omega))
          · obtain rfl : k = n := by omega
            rw [Nat.sub_self, wordsA] at hI
            conv => whnf
            repeat (first | ((with_reducible first | apply ga | apply gb | apply gc | apply gd | apply ge | apply gf | apply gg | apply gh | apply gi | apply gj); conv => whnf) | (refine ⟨⟨rfl, rfl, nle rfl, nle rfl⟩, ?_⟩; conv => whnf) | fail)
            refine hK _ (g, acc, a + 4 + 2 * k, 0, 0) ⟨⟨hnum, by dsimp only; omega, hab⟩, .inl ⟨rfl, rfl, hI⟩⟩ (SubS.mkNK [] [(100, 100), (4, 4), (6, 6), (1000, 1000)] rfl rfl rfl ⟨⟨_, rfl, .ptr _ _ _ _ _ _ _ _ _ rfl rfl rfl rfl⟩, ⟨_, rfl, .ptr _ _ _ _ _ _ _ _ _ rfl rfl rfl rfl⟩, ⟨_, rfl, .same⟩, ⟨_, rfl, .ptr _ _ _ _ _ _ _ _ _ rfl rfl rfl rfl⟩, trivial⟩
                ⟨.inl ⟨_, _, rfl, rfl, rfl, rfLe rfl rfl rfl rfl .same .same .same .same⟩, .inl ⟨_, _, rfl, rfl, rfl, bkLe rfl rfl rfl rfl .same .nils⟩, .inl ⟨_, _, rfl, rfl, rfl, bkLe rfl rfl rfl rfl .same (.row _ _ _ _ _ _ _ _ _ rfl rfl rfl rfl)⟩, .inl ⟨_, _, rfl, rfl, rfl, .keepA⟩, trivial⟩)
        · have he' : ((e : Int) == 0) = false := beq_eq_false_iff_ne.mpr (by omega)
          conv => whnf
          repeat (first | ((with_reducible first | apply ga | apply gb | apply gc | apply gd | apply ge | apply gf | apply gg | apply gh | apply gi | apply gj); conv => whnf) | (refine ⟨⟨rfl, rfl, nle rfl, nle rfl⟩, ?_⟩; conv => whnf) | fail)
          refine ⟨fun hc => ?_, fun hc => ?_⟩ <;> replace hc := nm hc <;> (try rw [Int.toNat_zero] at hc) <;> (try rw [Int.toNat_one] at hc)
          · conv => whnf
            repeat (first | ((with_reducible first | apply ga | apply gb | apply gc | apply gd | apply ge | apply gf | apply gg | apply gh | apply gi | apply gj); conv => whnf) | (refine ⟨⟨rfl, rfl, nle rfl, nle rfl⟩, ?_⟩; conv => whnf) | fail)
            repeat (refine ⟨⟨rfl, rfl, nle rfl, nle rfl⟩, ?_⟩; conv => whnf)
            repeat (first | ((with_reducible first | apply ga | apply gb | apply gc | apply gd | apply ge | apply gf | apply gg | apply gh | apply gi | apply gj); conv => whnf) | (refine ⟨⟨rfl, rfl, nle rfl, nle rfl⟩, ?_⟩; conv => whnf) | fail)
            refine ⟨fun h => absurd h (by rw [he']; decide), fun _ => ?_⟩
            conv => whnf
            repeat (first | ((with_reducible first | apply ga | apply gb | apply gc | apply gd | apply ge | apply gf | apply gg | apply gh | apply gi | apply gj); conv => whnf) | (refine ⟨⟨rfl, rfl, nle rfl, nle rfl⟩, ?_⟩; conv => whnf) | fail)
            refine hK _ (g, acc, a2, p, e) ⟨⟨hnum, by dsimp only; omega, hab⟩, .inr ⟨he, hI⟩⟩ (SubS.mkNK [] [(100, 100), (4, 4), (6, 6), (1000, 1000)] rfl rfl rfl ⟨⟨_, rfl, .ptr _ _ _ _ _ _ _ _ _ rfl rfl rfl rfl⟩, ⟨_, rfl, .ptr _ _ _ _ _ _ _ _ _ rfl rfl rfl rfl⟩, ⟨_, rfl, .same⟩, ⟨_, rfl, .ptr _ _ _ _ _ _ _ _ _ rfl rfl rfl rfl⟩, trivial⟩
                ⟨.inl ⟨_, _, rfl, rfl, rfl, rfLe rfl rfl rfl rfl .same .same .same .same⟩, .inl ⟨_, _, rfl, rfl, rfl, bkLe rfl rfl rfl rfl .same .nils⟩, .inl ⟨_, _, rfl, rfl, rfl, bkLe rfl rfl rfl rfl .same (.row _ _ _ _ _ _ _ _ _ rfl rfl rfl rfl)⟩, .inl ⟨_, _, rfl, rfl, rfl, .keepA⟩, trivial⟩)
          · conv => whnf
            repeat (first | ((with_reducible first | apply ga | apply gb | apply gc | apply gd | apply ge | apply gf | apply gg | apply gh | apply gi | apply gj); conv => whnf) | (refine ⟨⟨rfl, rfl, nle rfl, nle rfl⟩, ?_⟩; conv => whnf) | fail)
            refine hK _ (g, acc, a2, p, e) ⟨⟨hnum, by dsimp only; omega, hab⟩, .inr ⟨he, hI⟩⟩ (SubS.mkNK [] [(100, 100), (4, 4), (6, 6), (1000, 1000)] rfl rfl rfl ⟨⟨_, rfl, .ptr _ _ _ _ _ _ _ _ _ rfl rfl rfl rfl⟩, ⟨_, rfl, .ptr _ _ _ _ _ _ _ _ _ rfl rfl rfl rfl⟩, ⟨_, rfl, .same⟩, ⟨_, rfl, .ptr _ _ _ _ _ _ _ _ _ rfl rfl rfl rfl⟩, trivial⟩
                ⟨.inl ⟨_, _, rfl, rfl, rfl, rfLe rfl rfl rfl rfl .same .same .same .same⟩, .inl ⟨_, _, rfl, rfl, rfl, bkLe rfl rfl rfl rfl .same .nils⟩, .inl ⟨_, _, rfl, rfl, rfl, bkLe rfl rfl rfl rfl .same (.row _ _ _ _ _ _ _ _ _ rfl rfl rfl rfl)⟩, .inl ⟨_, _, rfl, rfl, rfl, .keepA⟩, trivial⟩)
      · rintro ⟨g, acc, a2, p, e⟩ ⟨⟨hnum, hal, hab⟩, hF⟩
        dsimp only at hal hab hF ⊢
        refine awp_cut (α := Nat × List Nat × Nat × Nat × Nat)
          (fun x => mkStK 68 [(0, .ptr 100 0 4 0 0), (4, .ptr 4 0 2 0 0), (6, .ptr 6 0 2 0 0)] [(100, rfO L x.2.2.1 x.2.2.2.1 x.2.2.2.2), (4, bkO 0 .nilS), (6, bkO num (.row 1000 x.1 1 0 x.2.1.length)), (1000, rowA 39 1 wcell 0 x.1 x.2.1)] [100])
          (fun x => (num ≤ 35 ∧ x.2.1.length ≤ 1024 ∧ ∀ y ∈ x.2.1, y < 65536) ∧ ((x.2.2.2.2 = 0 ∧ x.2.2.2.1 = 0 ∧ bankA L a last = .ok (⟨num, x.2.1⟩, x.2.2.1)) ∨ (x.2.2.2.2 ≠ 0 ∧ bankA L a last = .error x.2.2.2))) (fun K hK => ?_) ?_
        · refine awp_last tab_ok mixed ?_
          rcases hF with ⟨rfl, rfl, hI⟩ | ⟨he, hI⟩
          · have hWB : BankB ⟨(num : Int), acc⟩ := ⟨by unfold inI64; dsimp only; omega, by dsimp only; omega, hab⟩
            conv => whnf
            repeat (first | ((with_reducible first | apply ga | apply gb | apply gc | apply gd | apply ge | apply gf | apply gg | apply gh | apply gi | apply gj); conv => whnf) | (refine ⟨⟨rfl, rfl, nle rfl, nle rfl⟩, ?_⟩; conv => whnf) | fail)
            repeat (refine ⟨⟨rfl, rfl, nle rfl, nle rfl⟩, ?_⟩; conv => whnf)
            repeat (first | ((with_reducible first | apply ga | apply gb | apply gc | apply gd | apply ge | apply gf | apply gg | apply gh | apply gi | apply gj); conv => whnf) | (refine ⟨⟨rfl, rfl, nle rfl, nle rfl⟩, ?_⟩; conv => whnf) | fail)
            refine ⟨fun _ => ?_, fun h => absurd h (by simp)⟩
            conv => whnf
            repeat (first | ((with_reducible first | apply ga | apply gb | apply gc | apply gd | apply ge | apply gf | apply gg | apply gh | apply gi | apply gj); conv => whnf) | (refine ⟨⟨rfl, rfl, nle rfl, nle rfl⟩, ?_⟩; conv => whnf) | fail)
            repeat (refine ⟨⟨rfl, rfl, nle rfl, nle rfl⟩, ?_⟩; conv => whnf)
            repeat (first | ((with_reducible first | apply ga | apply gb | apply gc | apply gd | apply ge | apply gf | apply gg | apply gh | apply gi | apply gj); conv => whnf) | (refine ⟨⟨rfl, rfl, nle rfl, nle rfl⟩, ?_⟩; conv => whnf) | fail)
            refine CallK.flat [1000] (f24 ⟨(num : Int), acc⟩ hWB) ⟨agg2 .same (VLe.frzA rfl rfl rfl), trivial⟩ rfl ?_
            conv => whnf
            repeat (first | ((with_reducible first | apply ga | apply gb | apply gc | apply gd | apply ge | apply gf | apply gg | apply gh | apply gi | apply gj); conv => whnf) | (refine ⟨⟨rfl, rfl, nle rfl, nle rfl⟩, ?_⟩; conv => whnf) | fail)
            refine ⟨fun hs => ?_, fun hs => ?_⟩ <;> replace hs := nm hs <;> (try rw [Int.toNat_zero] at hs) <;> (try rw [Int.toNat_one] at hs)
            · conv => whnf
              repeat (first | ((with_reducible first | apply ga | apply gb | apply gc | apply gd | apply ge | apply gf | apply gg | apply gh | apply gi | apply gj); conv => whnf) | (refine ⟨⟨rfl, rfl, nle rfl, nle rfl⟩, ?_⟩; conv => whnf) | fail)
              refine CallK.heapK (f55 L a2 0 a 10) [] [(100, 100)] rfl rfl rfl ⟨.ptr _ _ _ _ _ _ _ _ _ rfl rfl rfl rfl, .same, .same, trivial⟩ ⟨.inl ⟨_, _, rfl, rfl, rfl, rfLe rfl rfl rfl rfl .same .same .same .same⟩, trivial⟩ 3000 rfl ?_ (fun _ _ h => h.elim)
              rintro _ _ ⟨rfl, rfl⟩
              rw [if_pos hs] at hI
              conv => whnf
              repeat (first | ((with_reducible first | apply ga | apply gb | apply gc | apply gd | apply ge | apply gf | apply gg | apply gh | apply gi | apply gj); conv => whnf) | (refine ⟨⟨rfl, rfl, nle rfl, nle rfl⟩, ?_⟩; conv => whnf) | fail)
              exact hK _ (g, acc, a2, a, 10) ⟨⟨hnum, hal, hab⟩, .inr ⟨show (10 : Nat) ≠ 0 by decide, hI⟩⟩ (SubS.mkNK [] [(100, 100), (4, 4), (6, 6), (1000, 1000)] rfl rfl rfl ⟨⟨_, rfl, .ptr _ _ _ _ _ _ _ _ _ rfl rfl rfl rfl⟩, ⟨_, rfl, .ptr _ _ _ _ _ _ _ _ _ rfl rfl rfl rfl⟩, ⟨_, rfl, .ptr _ _ _ _ _ _ _ _ _ rfl rfl rfl rfl⟩, trivial⟩
                ⟨.inl ⟨_, _, rfl, rfl, rfl, rfLe rfl rfl rfl rfl .same .same .same .same⟩, .inl ⟨_, _, rfl, rfl, rfl, bkLe rfl rfl rfl rfl .same .nils⟩, .inl ⟨_, _, rfl, rfl, rfl, bkLe rfl rfl rfl rfl .same (.row _ _ _ _ _ _ _ _ _ rfl rfl rfl rfl)⟩, .inl ⟨_, _, rfl, rfl, rfl, .keepA⟩, trivial⟩)
            · rw [if_neg (by rw [hs]; decide)] at hI
              conv => whnf
              repeat (first | ((with_reducible first | apply ga | apply gb | apply gc | apply gd | apply ge | apply gf | apply gg | apply gh | apply gi | apply gj); conv => whnf) | (refine ⟨⟨rfl, rfl, nle rfl, nle rfl⟩, ?_⟩; conv => whnf) | fail)
              exact hK _ (g, acc, a2, 0, 0) ⟨⟨hnum, hal, hab⟩, .inl ⟨rfl, rfl, hI⟩⟩ (SubS.mkNK [] [(100, 100), (4, 4), (6, 6), (1000, 1000)] rfl rfl rfl ⟨⟨_, rfl, .ptr _ _ _ _ _ _ _ _ _ rfl rfl rfl rfl⟩, ⟨_, rfl, .ptr _ _ _ _ _ _ _ _ _ rfl rfl rfl rfl⟩, ⟨_, rfl, .ptr _ _ _ _ _ _ _ _ _ rfl rfl rfl rfl⟩, trivial⟩
                ⟨.inl ⟨_, _, rfl, rfl, rfl, rfLe rfl rfl rfl rfl .same .same .same .same⟩, .inl ⟨_, _, rfl, rfl, rfl, bkLe rfl rfl rfl rfl .same .nils⟩, .inl ⟨_, _, rfl, rfl, rfl, bkLe rfl rfl rfl rfl .same (.row _ _ _ _ _ _ _ _ _ rfl rfl rfl rfl)⟩, .inl ⟨_, _, rfl, rfl, rfl, .keepA⟩, trivial⟩)
          · have he' : ((e : Int) == 0) = false := beq_eq_false_iff_ne.mpr (by omega)
            conv => whnf
            repeat (first | ((with_reducible first | apply ga | apply gb | apply gc | apply gd | apply ge | apply gf | apply gg | apply gh | apply gi | apply gj); conv => whnf) | (refine ⟨⟨rfl, rfl, nle rfl, nle rfl⟩, ?_⟩; conv => whnf) | fail)
            repeat (refine ⟨⟨rfl, rfl, nle rfl, nle rfl⟩, ?_⟩; conv => whnf)
            repeat (first | ((with_reducible first | apply ga | apply gb | apply gc | apply gd | apply ge | apply gf | apply gg | apply gh | apply gi | apply gj); conv => whnf) | (refine ⟨⟨rfl, rfl, nle rfl, nle rfl⟩, ?_⟩; conv => whnf) | fail)
            refine ⟨fun h => absurd h (by rw [he']; decide), fun _ => ?_⟩
            conv => whnf
            repeat (first | ((with_reducible first | apply ga | apply gb | apply gc | apply gd | apply ge | apply gf | apply gg | apply gh | apply gi | apply gj); conv => whnf) | (refine ⟨⟨rfl, rfl, nle rfl, nle rfl⟩, ?_⟩; conv => whnf) | fail)
            exact hK _ (g, acc, a2, p, e) ⟨⟨hnum, hal, hab⟩, .inr ⟨he, hI⟩⟩ (SubS.mkNK [] [(100, 100), (4, 4), (6, 6), (1000, 1000)] rfl rfl rfl ⟨⟨_, rfl, .ptr _ _ _ _ _ _ _ _ _ rfl rfl rfl rfl⟩, ⟨_, rfl, .ptr _ _ _ _ _ _ _ _ _ rfl rfl rfl rfl⟩, ⟨_, rfl, .ptr _ _ _ _ _ _ _ _ _ rfl rfl rfl rfl⟩, trivial⟩
                ⟨.inl ⟨_, _, rfl, rfl, rfl, rfLe rfl rfl rfl rfl .same .same .same .same⟩, .inl ⟨_, _, rfl, rfl, rfl, bkLe rfl rfl rfl rfl .same .nils⟩, .inl ⟨_, _, rfl, rfl, rfl, bkLe rfl rfl rfl rfl .same (.row _ _ _ _ _ _ _ _ _ rfl rfl rfl rfl)⟩, .inl ⟨_, _, rfl, rfl, rfl, .keepA⟩, trivial⟩)
        · rintro ⟨g, acc, a2, p, e⟩ ⟨⟨hnum, hal, hab⟩, hF⟩
          dsimp only at hal hab hF ⊢
          refine awp_last tab_ok mixed ?_
          conv => whnf
          repeat (first | ((with_reducible first | apply ga | apply gb | apply gc | apply gd | apply ge | apply gf | apply gg | apply gh | apply gi | apply gj); conv => whnf) | (refine ⟨⟨rfl, rfl, nle rfl, nle rfl⟩, ?_⟩; conv => whnf) | fail)
          repeat (refine ⟨⟨rfl, rfl, nle rfl, nle rfl⟩, ?_⟩; conv => whnf)
          repeat (first | ((with_reducible first | apply ga | apply gb | apply gc | apply gd | apply ge | apply gf | apply gg | apply gh | apply gi | apply gj); conv => whnf) | (refine ⟨⟨rfl, rfl, nle rfl, nle rfl⟩, ?_⟩; conv => whnf) | fail)
          exact ⟨_, _, ⟨⟨num, acc⟩, a2, p, e, rfl, by unfold inI64; dsimp only; omega, rfl, hF⟩, SubS.mkK [1000] rfl ⟨⟨_, rfl, agg2 .same (VLe.frzA rfl rfl rfl)⟩, trivial⟩ ⟨.inl ⟨_, _, rfl, rfl, rfl, rfLe rfl rfl rfl rfl .same .same .same .same⟩, trivial⟩⟩
end Go.Proofs.Ytioccpodnkllfaa

namespace Go.Proofs.Ytioccpodnkllfaa
open Go Go.AM
attribute [local irreducible] AWP CallK PureCall SubS HeapCall HeapCallP HeapCallK
theorem f55c (L : List Nat) (a : Int) (w p e d : Nat) : HeapCallK Try.prog 55 [.ptr 100 0 4 0 0, i64 p, i64 e] [(100, rfO L a w d)]
    (fun r Hout => r = tupV [] ∧ Hout = [(100, rfO L a (if d = 0 then p else w : Nat) (if d = 0 then e else d : Nat))]) (fun _ _ => False) := by
  by_cases h : d = 0
  · subst h; exact f55 L a w p e
  · rw [if_neg h, if_neg h]; exact f55' L a w p e d (by omega)
set_option maxHeartbeats 4000000 in
theorem f28 (L : List Nat) (hL : BtB L) : PureCall Try.prog 28 [.pv (bytesP L)] (unpackT (unpackA L)) := by
  have hl := hL.1
  refine PureCall.body tab_ok (by kernel_rfl) Try.func28 rfl rfl rfl ?_
  refine awp_piece tab_ok mixed ?_
  conv => whnf
  repeat (first | ((with_reducible first | apply ga | apply gb | apply gc | apply gd | apply ge | apply gf | apply gg | apply gh | apply gi | apply gj); conv => whnf) | (refine ⟨⟨rfl, rfl, nle rfl, nle rfl⟩, ?_⟩; conv => whnf) | fail)
  refine awp_piece tab_ok mixed ?_
  conv => whnf
  repeat (first | ((with_reducible first | apply ga | apply gb | apply gc | apply gd | apply ge | apply gf | apply gg | apply gh | apply gi | apply gj); conv => whnf) | (refine ⟨⟨rfl, rfl, nle rfl, nle rfl⟩, ?_⟩; conv => whnf) | fail)
  refine awp_piece tab_ok mixed ?_
  conv => whnf
  repeat (first | ((with_reducible first | apply ga | apply gb | apply gc | apply gd | apply ge | apply gf | apply gg | apply gh | apply gi | apply gj); conv => whnf) | (refine ⟨⟨rfl, rfl, nle rfl, nle rfl⟩, ?_⟩; conv => whnf) | fail)
  refine CallK.heap f50 [] [] rfl rfl trivial trivial 2000 rfl ?_
  rintro _ _ ⟨rfl, rfl⟩
  conv => whnf
  repeat (first | ((with_reducible first | apply ga | apply gb | apply gc | apply gd | apply ge | apply gf | apply gg | apply gh | apply gi | apply gj); conv => whnf) | (refine ⟨⟨rfl, rfl, nle rfl, nle rfl⟩, ?_⟩; conv => whnf) | fail)
  refine awp_cut (α := Nat × Nat) (fun x => mkSt 101 [(0, .pv (bytesP L)), (5, .ptr 15 0 4 0 0)] [(15, rfO L 0 x.1 x.2)]) (fun x => (x.2 = 0 ∧ x.1 = 0 ∧ magE L 0 = none) ∨ (x.2 ≠ 0 ∧ magE L 0 = some x)) (fun K hK => ?_) ?_
  · refine awp_piece tab_ok mixed ?_
    conv => whnf
    repeat (first | ((with_reducible first | apply ga | apply gb | apply gc | apply gd | apply ge | apply gf | apply gg | apply gh | apply gi | apply gj); conv => whnf) | (refine ⟨⟨rfl, rfl, nle rfl, nle rfl⟩, ?_⟩; conv => whnf) | fail)
    refine awp_block (awp_loopI (fun x : Nat × Nat × Nat => x.1 ≤ 4 ∧ ((x.2.2 = 0 ∧ x.2.1 = 0 ∧ magE L 0 = magE L x.1) ∨ (x.2.2 ≠ 0 ∧ magE L 0 = some x.2)))
      (fun x => mkSt 101 [(0, .pv (bytesP L)), (5, .ptr 15 0 4 0 0), (6, .row 2200 0 1 0 4), (7, i64 x.1)] [(15, rfO L 0 x.2.1 x.2.2), (2200, rowA 5 1 bcell 0 0 magicL)]) (fun x => 4 - x.1) (0, 0, 0) ⟨by decide, .inl ⟨rfl, rfl, rfl⟩⟩
      (SubS.mkN [] [(15, 15), (2200, 2200)] rfl rfl rfl ⟨⟨_, rfl, .same⟩, ⟨_, rfl, .ptr _ _ _ _ _ _ _ _ _ rfl rfl rfl rfl⟩, ⟨_, rfl, .row _ _ _ _ _ _ _ _ _ rfl rfl rfl rfl⟩, ⟨_, rfl, .same⟩, trivial⟩ ⟨.inl ⟨_, _, rfl, rfl, rfl, rfLe rfl rfl rfl rfl .same .same .same .same⟩, .inl ⟨_, _, rfl, rfl, rfl, .keepA⟩, trivial⟩) ?_)
    rintro ⟨i, p, e⟩ ⟨hi, hF⟩
    dsimp only at hi hF ⊢
    refine awp_piece tab_ok mixed ?_
    conv => whnf
    repeat (first | ((with_reducible first | apply ga | apply gb | apply gc | apply gd | apply ge | apply gf | apply gg | apply gh | apply gi | apply gj); conv => whnf) | (refine ⟨⟨rfl, rfl, nle rfl, nle rfl⟩, ?_⟩; conv => whnf) | fail)
    refine ⟨fun hc => ?_, fun hc => ?_⟩ <;> replace hc := nm hc <;> (try rw [Int.toNat_zero] at hc) <;> (try rw [Int.toNat_one] at hc)
    · conv => whnf
      repeat (first | ((with_reducible first | apply ga | apply gb | apply gc | apply gd | apply ge | apply gf | apply gg | apply gh | apply gi | apply gj); conv => whnf) | (refine ⟨⟨rfl, rfl, nle rfl, nle rfl⟩, ?_⟩; conv => whnf) | fail)
      rw [magE_eq L i, if_pos (by omega)] at hF
      refine awp_cut (α := Nat × Nat) (fun x => mkSt 101 [(0, .pv (bytesP L)), (5, .ptr 15 0 4 0 0), (6, .row 2200 0 1 0 4), (7, i64 i)] [(15, rfO L 0 x.1 x.2), (2200, rowA 5 1 bcell 0 0 magicL)])
        (fun x => (x.2 = 0 ∧ x.1 = 0 ∧ magE L 0 = magE L (i + 1)) ∨ (x.2 ≠ 0 ∧ magE L 0 = some x)) (fun K' hK' => ?_) ?_
      · refine awp_block ?_
        refine awp_piece tab_ok mixed ?_
        conv => whnf
        repeat (first | ((with_reducible first | apply ga | apply gb | apply gc | apply gd | apply ge | apply gf | apply gg | apply gh | apply gi | apply gj); conv => whnf) | (refine ⟨⟨rfl, rfl, nle rfl, nle rfl⟩, ?_⟩; conv => whnf) | fail)
        refine awp_last tab_ok mixed ?_
        conv => whnf
        repeat (first | ((with_reducible first | apply ga | apply gb | apply gc | apply gd | apply ge | apply gf | apply gg | apply gh | apply gi | apply gj); conv => whnf) | (refine ⟨⟨rfl, rfl, nle rfl, nle rfl⟩, ?_⟩; conv => whnf) | fail)
        refine ⟨fun h1 => ?_, fun h1 => ?_⟩ <;> replace h1 := nm h1 <;> (try rw [Int.toNat_zero] at h1) <;> (try rw [Int.toNat_one] at h1)
        · rw [if_pos (show L.length ≤ i by omega)] at hF
          conv => whnf
          repeat (first | ((with_reducible first | apply ga | apply gb | apply gc | apply gd | apply ge | apply gf | apply gg | apply gh | apply gi | apply gj); conv => whnf) | (refine ⟨⟨rfl, rfl, nle rfl, nle rfl⟩, ?_⟩; conv => whnf) | fail)
          refine CallK.heapK (f55c L 0 p L.length 9 e) [] [(100, 15)] rfl rfl rfl ⟨.ptr _ _ _ _ _ _ _ _ _ rfl rfl rfl rfl, .same, .same, trivial⟩ ⟨.inl ⟨_, _, rfl, rfl, rfl, rfLe rfl rfl rfl rfl .same .same .same .same⟩, trivial⟩ 3000 rfl ?_ (fun _ _ h => h.elim)
          rintro _ _ ⟨rfl, rfl⟩
          conv => whnf
          repeat (first | ((with_reducible first | apply ga | apply gb | apply gc | apply gd | apply ge | apply gf | apply gg | apply gh | apply gi | apply gj); conv => whnf) | (refine ⟨⟨rfl, rfl, nle rfl, nle rfl⟩, ?_⟩; conv => whnf) | fail)
          refine hK' _ (if e = 0 then L.length else p, if e = 0 then 9 else e) ?_ (SubS.mkN [] [(15, 15), (2200, 2200)] rfl rfl rfl ⟨⟨_, rfl, .same⟩, ⟨_, rfl, .ptr _ _ _ _ _ _ _ _ _ rfl rfl rfl rfl⟩, ⟨_, rfl, .row _ _ _ _ _ _ _ _ _ rfl rfl rfl rfl⟩, ⟨_, rfl, .same⟩, trivial⟩ ⟨.inl ⟨_, _, rfl, rfl, rfl, rfLe rfl rfl rfl rfl .same .same .same .same⟩, .inl ⟨_, _, rfl, rfl, rfl, .keepA⟩, trivial⟩)
          rcases hF with ⟨rfl, rfl, hF⟩ | ⟨he, hF⟩
          · exact .inr ⟨show (9 : Nat) ≠ 0 by decide, hF⟩
          · rw [if_neg he, if_neg he]; exact .inr ⟨he, hF⟩
        · rw [if_neg (show ¬ L.length ≤ i by omega)] at hF
          conv => whnf
          repeat (first | ((with_reducible first | apply ga | apply gb | apply gc | apply gd | apply ge | apply gf | apply gg | apply gh | apply gi | apply gj); conv => whnf) | (refine ⟨⟨rfl, rfl, nle rfl, nle rfl⟩, ?_⟩; conv => whnf) | fail)
          refine ⟨⟨by omega, by omega, rfl⟩, ?_⟩
          conv => whnf
          repeat (first | ((with_reducible first | apply ga | apply gb | apply gc | apply gd | apply ge | apply gf | apply gg | apply gh | apply gi | apply gj); conv => whnf) | (refine ⟨⟨rfl, rfl, nle rfl, nle rfl⟩, ?_⟩; conv => whnf) | fail)
          refine ⟨⟨by decide⟩, ?_⟩
          conv => whnf
          repeat (first | ((with_reducible first | apply ga | apply gb | apply gc | apply gd | apply ge | apply gf | apply gg | apply gh | apply gi | apply gj); conv => whnf) | (refine ⟨⟨rfl, rfl, nle rfl, nle rfl⟩, ?_⟩; conv => whnf) | fail)
          refine ⟨⟨by omega, by omega, rfl⟩, ?_⟩
          conv => whnf
          repeat (first | ((with_reducible first | apply ga | apply gb | apply gc | apply gd | apply ge | apply gf | apply gg | apply gh | apply gi | apply gj); conv => whnf) | (refine ⟨⟨rfl, rfl, nle rfl, nle rfl⟩, ?_⟩; conv => whnf) | fail)
          refine ⟨⟨rfl, rfl, show 0 + (i : Int).toNat < 4 by omega, nle rfl⟩, ?_⟩
          conv => whnf
          repeat (first | ((with_reducible first | apply ga | apply gb | apply gc | apply gd | apply ge | apply gf | apply gg | apply gh | apply gi | apply gj); conv => whnf) | (refine ⟨⟨rfl, rfl, nle rfl, nle rfl⟩, ?_⟩; conv => whnf) | fail)
          refine ⟨rfl, ?_⟩
          conv => whnf
          repeat (first | ((with_reducible first | apply ga | apply gb | apply gc | apply gd | apply ge | apply gf | apply gg | apply gh | apply gi | apply gj); conv => whnf) | (refine ⟨⟨rfl, rfl, nle rfl, nle rfl⟩, ?_⟩; conv => whnf) | fail)
          rw [Int.toNat_natCast, Nat.zero_add]
          refine ⟨fun h2 => ?_, fun h2 => ?_⟩ <;> replace h2 := nm h2 <;> (try rw [Int.toNat_zero] at h2) <;> (try rw [Int.toNat_one] at h2)
          · rw [if_pos (show L.getD i 0 ≠ magicL.getD i 0 by omega)] at hF
            conv => whnf
            repeat (first | ((with_reducible first | apply ga | apply gb | apply gc | apply gd | apply ge | apply gf | apply gg | apply gh | apply gi | apply gj); conv => whnf) | (refine ⟨⟨rfl, rfl, nle rfl, nle rfl⟩, ?_⟩; conv => whnf) | fail)
            refine CallK.heapK (f55c L 0 p i 5 e) [] [(100, 15)] rfl rfl rfl ⟨.ptr _ _ _ _ _ _ _ _ _ rfl rfl rfl rfl, .same, .same, trivial⟩ ⟨.inl ⟨_, _, rfl, rfl, rfl, rfLe rfl rfl rfl rfl .same .same .same .same⟩, trivial⟩ 3000 rfl ?_ (fun _ _ h => h.elim)
            rintro _ _ ⟨rfl, rfl⟩
            conv => whnf
            repeat (first | ((with_reducible first | apply ga | apply gb | apply gc | apply gd | apply ge | apply gf | apply gg | apply gh | apply gi | apply gj); conv => whnf) | (refine ⟨⟨rfl, rfl, nle rfl, nle rfl⟩, ?_⟩; conv => whnf) | fail)
            refine hK' _ (if e = 0 then i else p, if e = 0 then 5 else e) ?_ (SubS.mkN [] [(15, 15), (2200, 2200)] rfl rfl rfl ⟨⟨_, rfl, .same⟩, ⟨_, rfl, .ptr _ _ _ _ _ _ _ _ _ rfl rfl rfl rfl⟩, ⟨_, rfl, .row _ _ _ _ _ _ _ _ _ rfl rfl rfl rfl⟩, ⟨_, rfl, .same⟩, trivial⟩ ⟨.inl ⟨_, _, rfl, rfl, rfl, rfLe rfl rfl rfl rfl .same .same .same .same⟩, .inl ⟨_, _, rfl, rfl, rfl, .keepA⟩, trivial⟩)
            rcases hF with ⟨rfl, rfl, hF⟩ | ⟨he, hF⟩
            · exact .inr ⟨show (5 : Nat) ≠ 0 by decide, hF⟩
            · rw [if_neg he, if_neg he]; exact .inr ⟨he, hF⟩
          · rw [if_neg (show ¬ L.getD i 0 ≠ magicL.getD i 0 by omega)] at hF
            conv => whnf
            repeat (first | ((with_reducible first | apply ga | apply gb | apply gc | apply gd | apply ge | apply gf | apply gg | apply gh | apply gi | apply gj); conv => whnf) | (refine ⟨⟨rfl, rfl, nle rfl, nle rfl⟩, ?_⟩; conv => whnf) | fail)
            exact hK' _ (p, e) hF (SubS.mkN [] [(15, 15), (2200, 2200)] rfl rfl rfl ⟨⟨_, rfl, .same⟩, ⟨_, rfl, .ptr _ _ _ _ _ _ _ _ _ rfl rfl rfl rfl⟩, ⟨_, rfl, .row _ _ _ _ _ _ _ _ _ rfl rfl rfl rfl⟩, ⟨_, rfl, .same⟩, trivial⟩ ⟨.inl ⟨_, _, rfl, rfl, rfl, rfLe rfl rfl rfl rfl .same .same .same .same⟩, .inl ⟨_, _, rfl, rfl, rfl, .keepA⟩, trivial⟩)
      · rintro ⟨p', e'⟩ hF'
        dsimp only at hF' ⊢
        refine awp_last tab_ok mixed ?_
        conv => whnf
        repeat (first | ((with_reducible first | apply ga | apply gb | apply gc | apply gd | apply ge | apply gf | apply gg | apply gh | apply gi | apply gj); conv => whnf) | (refine ⟨⟨rfl, rfl, nle rfl, nle rfl⟩, ?_⟩; conv => whnf) | fail)
        refine ⟨⟨by unfold inI64; omega⟩, ?_⟩
        conv => whnf
        repeat (first | ((with_reducible first | apply ga | apply gb | apply gc | apply gd | apply ge | apply gf | apply gg | apply gh | apply gi | apply gj); conv => whnf) | (refine ⟨⟨rfl, rfl, nle rfl, nle rfl⟩, ?_⟩; conv => whnf) | fail)
        exact ⟨(i + 1, p', e'), ⟨by dsimp only; omega, hF'⟩, (SubS.mkN [] [(15, 15), (2200, 2200)] rfl rfl rfl ⟨⟨_, rfl, .same⟩, ⟨_, rfl, .ptr _ _ _ _ _ _ _ _ _ rfl rfl rfl rfl⟩, ⟨_, rfl, .row _ _ _ _ _ _ _ _ _ rfl rfl rfl rfl⟩, ⟨_, rfl, .same⟩, trivial⟩ ⟨.inl ⟨_, _, rfl, rfl, rfl, rfLe rfl rfl rfl rfl .same .same .same .same⟩, .inl ⟨_, _, rfl, rfl, rfl, .keepA⟩, trivial⟩), by dsimp only; omega⟩
    · rw [magE_eq L i, if_neg (by omega)] at hF
      conv => whnf
      repeat (first | ((with_reducible first | apply ga | apply gb | apply gc | apply gd | apply ge | apply gf | apply gg | apply gh | apply gi | apply gj); conv => whnf) | (refine ⟨⟨rfl, rfl, nle rfl, nle rfl⟩, ?_⟩; conv => whnf) | fail)
      exact hK _ (p, e) hF (SubS.mkN [] [(15, 15)] rfl rfl rfl ⟨⟨_, rfl, .same⟩, ⟨_, rfl, .ptr _ _ _ _ _ _ _ _ _ rfl rfl rfl rfl⟩, trivial⟩ ⟨.inl ⟨_, _, rfl, rfl, rfl, rfLe rfl rfl rfl rfl .same .same .same .same⟩, trivial⟩)
  · rintro ⟨p, e⟩ hF
    dsimp only at hF ⊢
    refine awp_piece tab_ok mixed ?_
    conv => whnf
    repeat (first | ((with_reducible first | apply ga | apply gb | apply gc | apply gd | apply ge | apply gf | apply gg | apply gh | apply gi | apply gj); conv => whnf) | (refine ⟨⟨rfl, rfl, nle rfl, nle rfl⟩, ?_⟩; conv => whnf) | fail)
    repeat (refine ⟨⟨rfl, rfl, nle rfl, nle rfl⟩, ?_⟩; conv => whnf)
    repeat (first | ((with_reducible first | apply ga | apply gb | apply gc | apply gd | apply ge | apply gf | apply gg | apply gh | apply gi | apply gj); conv => whnf) | (refine ⟨⟨rfl, rfl, nle rfl, nle rfl⟩, ?_⟩; conv => whnf) | fail)
    refine awp_cut (α := Nat × Nat × Nat × Nat) (fun x => mkSt 101 [(0, .pv (bytesP L)), (5, .ptr 15 0 4 0 0), (8, i64 x.1)] [(15, rfO L x.2.1 x.2.2.1 x.2.2.2)])
      (fun x => x.1 ≤ 36 ∧ ((x.2.2.2 = 0 ∧ x.2.2.1 = 0 ∧ x.2.1 = 6 ∧ 6 ≤ L.length ∧ unpackA L = (match banksA L 6 x.1 (-1) [] with
        | .error e => .error e
        | .ok (bs, a) => if a < L.length then .error (a, 5) else .ok bs)) ∨ (x.2.2.2 ≠ 0 ∧ x.1 = 0 ∧ unpackA L = .error x.2.2))) (fun K hK => ?_) ?_
    · refine awp_last tab_ok mixed ?_
      rcases hF with ⟨rfl, rfl, hE⟩ | ⟨he, hE⟩
      · have h4 := magE_none hE
        conv => whnf
        repeat (first | ((with_reducible first | apply ga | apply gb | apply gc | apply gd | apply ge | apply gf | apply gg | apply gh | apply gi | apply gj); conv => whnf) | (refine ⟨⟨rfl, rfl, nle rfl, nle rfl⟩, ?_⟩; conv => whnf) | fail)
        refine CallK.heapK (f56 L hL 4 36 h4 (by decide)) [] [(100, 15)] rfl rfl rfl ⟨.ptr _ _ _ _ _ _ _ _ _ rfl rfl rfl rfl, .same, trivial⟩ ⟨.inl ⟨_, _, rfl, rfl, rfl, rfLe rfl rfl rfl rfl .same .same .same .same⟩, trivial⟩ 3000 rfl ?_ (fun _ _ h => h.elim)
        rintro _ _ ⟨rfl, rfl⟩
        cases hG : wordE L 4 36 with
        | some x =>
          obtain ⟨p, e⟩ := x
          have he := wordE_ne hG
          have e1 : wv L 4 36 = ((0 : Nat) : Int) := by unfold wv; rw [hG]; rfl
          have e2 : wr L 4 36 = rfO L (4 : Nat) p e := by unfold wr; rw [hG]
          rw [e1, e2]
          conv => whnf
          repeat (first | ((with_reducible first | apply ga | apply gb | apply gc | apply gd | apply ge | apply gf | apply gg | apply gh | apply gi | apply gj); conv => whnf) | (refine ⟨⟨rfl, rfl, nle rfl, nle rfl⟩, ?_⟩; conv => whnf) | fail)
          exact hK _ (0, 4, p, e) ⟨Nat.zero_le _, .inr ⟨he, rfl, by unfold unpackA; rw [hE]; dsimp only; rw [hG]⟩⟩ (SubS.mkN [] [(15, 15)] rfl rfl rfl ⟨⟨_, rfl, .same⟩, ⟨_, rfl, .ptr _ _ _ _ _ _ _ _ _ rfl rfl rfl rfl⟩, ⟨_, rfl, .same⟩, trivial⟩ ⟨.inl ⟨_, _, rfl, rfl, rfl, rfLe rfl rfl rfl rfl .same .same .same .same⟩, trivial⟩)
        | none =>
          have hG1 := wordE_none hG
          have e1 : wv L 4 36 = (lo (wordS L 4) : Nat) := by unfold wv; rw [hG]
          have e2 : wr L 4 36 = rfO L (6 : Nat) 0 0 := by unfold wr; rw [hG]
          rw [e1, e2]
          conv => whnf
          repeat (first | ((with_reducible first | apply ga | apply gb | apply gc | apply gd | apply ge | apply gf | apply gg | apply gh | apply gi | apply gj); conv => whnf) | (refine ⟨⟨rfl, rfl, nle rfl, nle rfl⟩, ?_⟩; conv => whnf) | fail)
          exact hK _ (lo (wordS L 4), 6, 0, 0) ⟨hG1.2, .inl ⟨rfl, rfl, rfl, hG1.1, by unfold unpackA; rw [hE]; dsimp only; rw [hG]; rfl⟩⟩ (SubS.mkN [] [(15, 15)] rfl rfl rfl ⟨⟨_, rfl, .same⟩, ⟨_, rfl, .ptr _ _ _ _ _ _ _ _ _ rfl rfl rfl rfl⟩, ⟨_, rfl, .same⟩, trivial⟩ ⟨.inl ⟨_, _, rfl, rfl, rfl, rfLe rfl rfl rfl rfl .same .same .same .same⟩, trivial⟩)
      · conv => whnf
        repeat (first | ((with_reducible first | apply ga | apply gb | apply gc | apply gd | apply ge | apply gf | apply gg | apply gh | apply gi | apply gj); conv => whnf) | (refine ⟨⟨rfl, rfl, nle rfl, nle rfl⟩, ?_⟩; conv => whnf) | fail)
        refine CallK.heapK (f56' L 4 p e 36 (by omega)) [] [(100, 15)] rfl rfl rfl ⟨.ptr _ _ _ _ _ _ _ _ _ rfl rfl rfl rfl, .same, trivial⟩ ⟨.inl ⟨_, _, rfl, rfl, rfl, rfLe rfl rfl rfl rfl .same .same .same .same⟩, trivial⟩ 3000 rfl ?_ (fun _ _ h => h.elim)
        rintro _ _ ⟨rfl, rfl⟩
        conv => whnf
        repeat (first | ((with_reducible first | apply ga | apply gb | apply gc | apply gd | apply ge | apply gf | apply gg | apply gh | apply gi | apply gj); conv => whnf) | (refine ⟨⟨rfl, rfl, nle rfl, nle rfl⟩, ?_⟩; conv => whnf) | fail)
        exact hK _ (0, 4, p, e) ⟨Nat.zero_le _, .inr ⟨he, rfl, by unfold unpackA; rw [hE]⟩⟩ (SubS.mkN [] [(15, 15)] rfl rfl rfl ⟨⟨_, rfl, .same⟩, ⟨_, rfl, .ptr _ _ _ _ _ _ _ _ _ rfl rfl rfl rfl⟩, ⟨_, rfl, .same⟩, trivial⟩ ⟨.inl ⟨_, _, rfl, rfl, rfl, rfLe rfl rfl rfl rfl .same .same .same .same⟩, trivial⟩)
    · clear hF
      rintro ⟨n, a1, p, e⟩ ⟨hn, hF⟩
      dsimp only at hn hF ⊢
      refine awp_piece tab_ok mixed ?_
      conv => whnf
      repeat (first | ((with_reducible first | apply ga | apply gb | apply gc | apply gd | apply ge | apply gf | apply gg | apply gh | apply gi | apply gj); conv => whnf) | (refine ⟨⟨rfl, rfl, nle rfl, nle rfl⟩, ?_⟩; conv => whnf) | fail)
      refine awp_piece tab_ok mixed ?_
      conv => whnf
      repeat (first | ((with_reducible first | apply ga | apply gb | apply gc | apply gd | apply ge | apply gf | apply gg | apply gh | apply gi | apply gj); conv => whnf) | (refine ⟨⟨rfl, rfl, nle rfl, nle rfl⟩, ?_⟩; conv => whnf) | fail)
      refine awp_cut (α := Nat × List BankR × Nat × Nat × Nat) (fun x => mkSt 101 [(0, .pv (bytesP L)), (5, .ptr 15 0 4 0 0), (10, .row 1000 x.1 2 0 x.2.1.length)] [(15, rfO L x.2.2.1 x.2.2.2.1 x.2.2.2.2), (1000, rowA 35 2 BankR.p b0 x.1 x.2.1)])
        (fun x => (x.2.2.2.2 = 0 ∧ x.2.2.2.1 = 0 ∧ unpackA L = (if x.2.2.1 < L.length then .error (x.2.2.1, 5) else .ok x.2.1)) ∨ (x.2.2.2.2 ≠ 0 ∧ unpackA L = .error x.2.2.2)) (fun K hK => ?_) ?_
      · refine awp_piece tab_ok mixed ?_
        conv => whnf
        repeat (first | ((with_reducible first | apply ga | apply gb | apply gc | apply gd | apply ge | apply gf | apply gg | apply gh | apply gi | apply gj); conv => whnf) | (refine ⟨⟨rfl, rfl, nle rfl, nle rfl⟩, ?_⟩; conv => whnf) | fail)
        refine awp_block (awp_loopI (fun x : Nat × Int × Nat × List BankR × Nat × Nat × Nat => (n ≤ 36 ∧ x.1 ≤ n ∧ x.2.2.2.1.length = x.1 ∧ inI64 x.2.1) ∧ ((x.2.2.2.2.2.2 = 0 ∧ x.2.2.2.2.2.1 = 0 ∧ x.2.2.2.2.1 ≤ L.length ∧ unpackA L = (match banksA L x.2.2.2.2.1 (n - x.1) x.2.1 x.2.2.2.1 with
            | .error e => .error e
            | .ok (bs, a) => if a < L.length then .error (a, 5) else .ok bs)) ∨ (x.2.2.2.2.2.2 ≠ 0 ∧ unpackA L = .error x.2.2.2.2.2)))
          (fun x => mkSt 101 [(0, .pv (bytesP L)), (5, .ptr 15 0 4 0 0), (8, i64 n), (9, i64 x.2.1), (10, .row 1000 x.2.2.1 2 0 x.2.2.2.1.length), (11, i64 x.1)] [(15, rfO L x.2.2.2.2.1 x.2.2.2.2.2.1 x.2.2.2.2.2.2), (1000, rowA 35 2 BankR.p b0 x.2.2.1 x.2.2.2.1)])
          (fun x => n - x.1) (0, -1, 0, [], a1, p, e) ?_
          (SubS.mkN [] [(15, 15)] rfl rfl rfl ⟨⟨_, rfl, .same⟩, ⟨_, rfl, .ptr _ _ _ _ _ _ _ _ _ rfl rfl rfl rfl⟩, ⟨_, rfl, .same⟩, ⟨_, rfl, .same⟩, ⟨_, rfl, .void _ _ _⟩, ⟨_, rfl, .same⟩, trivial⟩ ⟨.inl ⟨_, _, rfl, rfl, rfl, rfLe rfl rfl rfl rfl .same .same .same .same⟩, .inr (.inl ⟨rfl, rfl⟩), trivial⟩) ?_)
        · refine ⟨⟨hn, Nat.zero_le _, rfl, show inI64 (-1) by unfold inI64; decide⟩, ?_⟩
          rcases hF with ⟨rfl, rfl, rfl, h1, h2⟩ | ⟨h1, rfl, h2⟩
          · exact .inl ⟨rfl, rfl, h1, h2⟩
          · exact .inr ⟨h1, h2⟩
        clear hF
        rintro ⟨k, last, g, acc, a2, p, e⟩ ⟨⟨hn, hk, hal, hlast⟩, hF⟩
        dsimp only at hk hal hlast hF ⊢
        refine awp_piece tab_ok mixed ?_
        rcases hF with ⟨rfl, rfl, ha2, hI⟩ | ⟨he, hI⟩
        · conv => whnf
          repeat (first | ((with_reducible first | apply ga | apply gb | apply gc | apply gd | apply ge | apply gf | apply gg | apply gh | apply gi | apply gj); conv => whnf) | (refine ⟨⟨rfl, rfl, nle rfl, nle rfl⟩, ?_⟩; conv => whnf) | fail)
          refine ⟨fun hc => ?_, fun hc => ?_⟩ <;> replace hc := nm hc <;> (try rw [Int.toNat_zero] at hc) <;> (try rw [Int.toNat_one] at hc)
          · have hlt : k < n := by omega
            rw [show n - k = (n - (k + 1)) + 1 by omega, banksA] at hI
            conv => whnf
            repeat (first | ((with_reducible first | apply ga | apply gb | apply gc | apply gd | apply ge | apply gf | apply gg | apply gh | apply gi | apply gj); conv => whnf) | (refine ⟨⟨rfl, rfl, nle rfl, nle rfl⟩, ?_⟩; conv => whnf) | fail)
            repeat (refine ⟨⟨rfl, rfl, nle rfl, nle rfl⟩, ?_⟩; conv => whnf)
            repeat (first | ((with_reducible first | apply ga | apply gb | apply gc | apply gd | apply ge | apply gf | apply gg | apply gh | apply gi | apply gj); conv => whnf) | (refine ⟨⟨rfl, rfl, nle rfl, nle rfl⟩, ?_⟩; conv => whnf) | fail)
            refine ⟨fun _ => ?_, fun h => absurd h (by simp)⟩
            conv => whnf
            repeat (first | ((with_reducible first | apply ga | apply gb | apply gc | apply gd | apply ge | apply gf | apply gg | apply gh | apply gi | apply gj); conv => whnf) | (refine ⟨⟨rfl, rfl, nle rfl, nle rfl⟩, ?_⟩; conv => whnf) | fail)
            refine awp_seq (awp_block ?_)
            refine awp_piece tab_ok mixed ?_
            conv => whnf
            repeat (first | ((with_reducible first | apply ga | apply gb | apply gc | apply gd | apply ge | apply gf | apply gg | apply gh | apply gi | apply gj); conv => whnf) | (refine ⟨⟨rfl, rfl, nle rfl, nle rfl⟩, ?_⟩; conv => whnf) | fail)
            refine CallK.heapK (f57 L hL a2 ha2 last) [] [(100, 15)] rfl rfl rfl ⟨.ptr _ _ _ _ _ _ _ _ _ rfl rfl rfl rfl, .same, trivial⟩ ⟨.inl ⟨_, _, rfl, rfl, rfl, rfLe rfl rfl rfl rfl .same .same .same .same⟩, trivial⟩ 2000 rfl ?_ (fun _ _ h => h.elim)
            rintro _ _ ⟨b, a', p, e, rfl, hb, rfl, hG⟩
            conv => whnf
            repeat (first | ((with_reducible first | apply ga | apply gb | apply gc | apply gd | apply ge | apply gf | apply gg | apply gh | apply gi | apply gj); conv => whnf) | (refine ⟨⟨rfl, rfl, nle rfl, nle rfl⟩, ?_⟩; conv => whnf) | fail)
            refine awp_piece tab_ok mixed ?_
            conv => whnf
            repeat (first | ((with_reducible first | apply ga | apply gb | apply gc | apply gd | apply ge | apply gf | apply gg | apply gh | apply gi | apply gj); conv => whnf) | (refine ⟨⟨rfl, rfl, nle rfl, nle rfl⟩, ?_⟩; conv => whnf) | fail)
            repeat (refine ⟨⟨rfl, rfl, nle rfl, nle rfl⟩, ?_⟩; conv => whnf)
            repeat (first | ((with_reducible first | apply ga | apply gb | apply gc | apply gd | apply ge | apply gf | apply gg | apply gh | apply gi | apply gj); conv => whnf) | (refine ⟨⟨rfl, rfl, nle rfl, nle rfl⟩, ?_⟩; conv => whnf) | fail)
            refine awp_last tab_ok mixed ?_
            conv => whnf
            repeat (first | ((with_reducible first | apply ga | apply gb | apply gc | apply gd | apply ge | apply gf | apply gg | apply gh | apply gi | apply gj); conv => whnf) | (refine ⟨⟨rfl, rfl, nle rfl, nle rfl⟩, ?_⟩; conv => whnf) | fail)
            repeat (refine ⟨⟨rfl, rfl, nle rfl, nle rfl⟩, ?_⟩; conv => whnf)
            repeat (first | ((with_reducible first | apply ga | apply gb | apply gc | apply gd | apply ge | apply gf | apply gg | apply gh | apply gi | apply gj); conv => whnf) | (refine ⟨⟨rfl, rfl, nle rfl, nle rfl⟩, ?_⟩; conv => whnf) | fail)
            refine ⟨⟨⟨rfl, rfl, rfl, nle rfl⟩, rfl, rfl, rfl, rfl, rfl, rfl, by show (acc.length + 1) * 32 ≤ _; omega⟩, ?_⟩
            conv => whnf
            repeat (first | ((with_reducible first | apply ga | apply gb | apply gc | apply gd | apply ge | apply gf | apply gg | apply gh | apply gi | apply gj); conv => whnf) | (refine ⟨⟨rfl, rfl, nle rfl, nle rfl⟩, ?_⟩; conv => whnf) | fail)
            refine awp_last tab_ok mixed ?_
            conv => whnf
            repeat (first | ((with_reducible first | apply ga | apply gb | apply gc | apply gd | apply ge | apply gf | apply gg | apply gh | apply gi | apply gj); conv => whnf) | (refine ⟨⟨rfl, rfl, nle rfl, nle rfl⟩, ?_⟩; conv => whnf) | fail)
            refine ⟨⟨by unfold inI64; omega⟩, ?_⟩
            conv => whnf
            repeat (first | ((with_reducible first | apply ga | apply gb | apply gc | apply gd | apply ge | apply gf | apply gg | apply gh | apply gi | apply gj); conv => whnf) | (refine ⟨⟨rfl, rfl, nle rfl, nle rfl⟩, ?_⟩; conv => whnf) | fail)
            refine ⟨(k + 1, b.num, g + 1, acc ++ [b], a', p, e), ⟨⟨hn, hlt, by simp [hal], hb⟩, ?_⟩, SubS.mkN [] [(15, 15), (1000, 1000)] rfl rfl rfl ⟨⟨_, rfl, .same⟩, ⟨_, rfl, .ptr _ _ _ _ _ _ _ _ _ rfl rfl rfl rfl⟩, ⟨_, rfl, .same⟩, ⟨_, rfl, .same⟩, ⟨_, rfl, .row _ _ _ _ _ _ _ _ _ rfl rfl rfl (by simp)⟩, ⟨_, rfl, .same⟩, trivial⟩ ⟨.inl ⟨_, _, rfl, rfl, rfl, rfLe rfl rfl rfl rfl .same .same .same .same⟩, .inl ⟨_, _, rfl, rfl, rfl, OLe.snocA rfl rfl rfl rfl rfl fun j hj => ?_⟩, trivial⟩, by dsimp only; omega⟩
            · rcases hG with ⟨rfl, rfl, hG⟩ | ⟨he, hG⟩
              · rw [hG] at hI
                exact .inl ⟨rfl, rfl, (bankA_ok hG).1, hI⟩
              · rw [hG] at hI
                exact .inr ⟨he, hI⟩
            · match j, hj with
              | 0, _ => exact .same
              | 1, _ => exact .same
          · rw [show n - k = 0 by omega, banksA] at hI
            conv => whnf
            repeat (first | ((with_reducible first | apply ga | apply gb | apply gc | apply gd | apply ge | apply gf | apply gg | apply gh | apply gi | apply gj); conv => whnf) | (refine ⟨⟨rfl, rfl, nle rfl, nle rfl⟩, ?_⟩; conv => whnf) | fail)
            exact hK _ (g, acc, a2, 0, 0) (.inl ⟨rfl, rfl, hI⟩) (SubS.mkN [] [(15, 15), (1000, 1000)] rfl rfl rfl ⟨⟨_, rfl, .same⟩, ⟨_, rfl, .ptr _ _ _ _ _ _ _ _ _ rfl rfl rfl rfl⟩, ⟨_, rfl, .row _ _ _ _ _ _ _ _ _ rfl rfl rfl rfl⟩, trivial⟩ ⟨.inl ⟨_, _, rfl, rfl, rfl, rfLe rfl rfl rfl rfl .same .same .same .same⟩, .inl ⟨_, _, rfl, rfl, rfl, .keepA⟩, trivial⟩)
        · have he' : ((e : Int) == 0) = false := beq_eq_false_iff_ne.mpr (by omega)
          conv => whnf
          repeat (first | ((with_reducible first | apply ga | apply gb | apply gc | apply gd | apply ge | apply gf | apply gg | apply gh | apply gi | apply gj); conv => whnf) | (refine ⟨⟨rfl, rfl, nle rfl, nle rfl⟩, ?_⟩; conv => whnf) | fail)
          refine ⟨fun hc => ?_, fun hc => ?_⟩ <;> replace hc := nm hc <;> (try rw [Int.toNat_zero] at hc) <;> (try rw [Int.toNat_one] at hc)
          · conv => whnf
            repeat (first | ((with_reducible first | apply ga | apply gb | apply gc | apply gd | apply ge | apply gf | apply gg | apply gh | apply gi | apply gj); conv => whnf) | (refine ⟨⟨rfl, rfl, nle rfl, nle rfl⟩, ?_⟩; conv => whnf) | fail)
            repeat (refine ⟨⟨rfl, rfl, nle rfl, nle rfl⟩, ?_⟩; conv => whnf)
            repeat (first | ((with_reducible first | apply ga | apply gb | apply gc | apply gd | apply ge | apply gf | apply gg | apply gh | apply gi | apply gj); conv => whnf) | (refine ⟨⟨rfl, rfl, nle rfl, nle rfl⟩, ?_⟩; conv => whnf) | fail)
            refine ⟨fun h => absurd h (by rw [he']; decide), fun _ => ?_⟩
            conv => whnf
            repeat (first | ((with_reducible first | apply ga | apply gb | apply gc | apply gd | apply ge | apply gf | apply gg | apply gh | apply gi | apply gj); conv => whnf) | (refine ⟨⟨rfl, rfl, nle rfl, nle rfl⟩, ?_⟩; conv => whnf) | fail)
            exact hK _ (g, acc, a2, p, e) (.inr ⟨he, hI⟩) (SubS.mkN [] [(15, 15), (1000, 1000)] rfl rfl rfl ⟨⟨_, rfl, .same⟩, ⟨_, rfl, .ptr _ _ _ _ _ _ _ _ _ rfl rfl rfl rfl⟩, ⟨_, rfl, .row _ _ _ _ _ _ _ _ _ rfl rfl rfl rfl⟩, trivial⟩ ⟨.inl ⟨_, _, rfl, rfl, rfl, rfLe rfl rfl rfl rfl .same .same .same .same⟩, .inl ⟨_, _, rfl, rfl, rfl, .keepA⟩, trivial⟩)
          · conv => whnf
            repeat (first | ((with_reducible first | apply ga | apply gb | apply gc | apply gd | apply ge | apply gf | apply gg | apply gh | apply gi | apply gj); conv => whnf) | (refine ⟨⟨rfl, rfl, nle rfl, nle rfl⟩, ?_⟩; conv => whnf) | fail)
            exact hK _ (g, acc, a2, p, e) (.inr ⟨he, hI⟩) (SubS.mkN [] [(15, 15), (1000, 1000)] rfl rfl rfl ⟨⟨_, rfl, .same⟩, ⟨_, rfl, .ptr _ _ _ _ _ _ _ _ _ rfl rfl rfl rfl⟩, ⟨_, rfl, .row _ _ _ _ _ _ _ _ _ rfl rfl rfl rfl⟩, trivial⟩ ⟨.inl ⟨_, _, rfl, rfl, rfl, rfLe rfl rfl rfl rfl .same .same .same .same⟩, .inl ⟨_, _, rfl, rfl, rfl, .keepA⟩, trivial⟩)
      · rintro ⟨g, acc, a2, p, e⟩ hF
        dsimp only at hF ⊢
        refine awp_cut (α := Nat × List BankR × Nat × Nat × Nat) (fun x => mkSt 101 [(0, .pv (bytesP L)), (5, .ptr 15 0 4 0 0), (10, .row 1000 x.1 2 0 x.2.1.length)] [(15, rfO L x.2.2.1 x.2.2.2.1 x.2.2.2.2), (1000, rowA 35 2 BankR.p b0 x.1 x.2.1)])
          (fun x => (x.2.2.2.2 = 0 ∧ x.2.2.2.1 = 0 ∧ unpackA L = .ok x.2.1) ∨ (x.2.2.2.2 ≠ 0 ∧ unpackA L = .error x.2.2.2)) (fun K hK => ?_) ?_
        · refine awp_last tab_ok mixed ?_
          rcases hF with ⟨rfl, rfl, hI⟩ | ⟨he, hI⟩
          · conv => whnf
            repeat (first | ((with_reducible first | apply ga | apply gb | apply gc | apply gd | apply ge | apply gf | apply gg | apply gh | apply gi | apply gj); conv => whnf) | (refine ⟨⟨rfl, rfl, nle rfl, nle rfl⟩, ?_⟩; conv => whnf) | fail)
            repeat (refine ⟨⟨rfl, rfl, nle rfl, nle rfl⟩, ?_⟩; conv => whnf)
            repeat (first | ((with_reducible first | apply ga | apply gb | apply gc | apply gd | apply ge | apply gf | apply gg | apply gh | apply gi | apply gj); conv => whnf) | (refine ⟨⟨rfl, rfl, nle rfl, nle rfl⟩, ?_⟩; conv => whnf) | fail)
            refine ⟨fun _ => ?_, fun h => absurd h (by simp)⟩
            conv => whnf
            repeat (first | ((with_reducible first | apply ga | apply gb | apply gc | apply gd | apply ge | apply gf | apply gg | apply gh | apply gi | apply gj); conv => whnf) | (refine ⟨⟨rfl, rfl, nle rfl, nle rfl⟩, ?_⟩; conv => whnf) | fail)
            repeat (refine ⟨⟨rfl, rfl, nle rfl, nle rfl⟩, ?_⟩; conv => whnf)
            repeat (first | ((with_reducible first | apply ga | apply gb | apply gc | apply gd | apply ge | apply gf | apply gg | apply gh | apply gi | apply gj); conv => whnf) | (refine ⟨⟨rfl, rfl, nle rfl, nle rfl⟩, ?_⟩; conv => whnf) | fail)
            refine ⟨fun hd => ?_, fun hd => ?_⟩ <;> replace hd := nm hd <;> (try rw [Int.toNat_zero] at hd) <;> (try rw [Int.toNat_one] at hd)
            · rw [if_pos (by omega)] at hI
              conv => whnf
              repeat (first | ((with_reducible first | apply ga | apply gb | apply gc | apply gd | apply ge | apply gf | apply gg | apply gh | apply gi | apply gj); conv => whnf) | (refine ⟨⟨rfl, rfl, nle rfl, nle rfl⟩, ?_⟩; conv => whnf) | fail)
              repeat (refine ⟨⟨rfl, rfl, nle rfl, nle rfl⟩, ?_⟩; conv => whnf)
              repeat (first | ((with_reducible first | apply ga | apply gb | apply gc | apply gd | apply ge | apply gf | apply gg | apply gh | apply gi | apply gj); conv => whnf) | (refine ⟨⟨rfl, rfl, nle rfl, nle rfl⟩, ?_⟩; conv => whnf) | fail)
              refine CallK.heapK (f55c L a2 0 a2 5 0) [] [(100, 15)] rfl rfl rfl ⟨.ptr _ _ _ _ _ _ _ _ _ rfl rfl rfl rfl, .same, .same, trivial⟩ ⟨.inl ⟨_, _, rfl, rfl, rfl, rfLe rfl rfl rfl rfl .same .same .same .same⟩, trivial⟩ 3000 rfl ?_ (fun _ _ h => h.elim)
              rintro _ _ ⟨rfl, rfl⟩
              conv => whnf
              repeat (first | ((with_reducible first | apply ga | apply gb | apply gc | apply gd | apply ge | apply gf | apply gg | apply gh | apply gi | apply gj); conv => whnf) | (refine ⟨⟨rfl, rfl, nle rfl, nle rfl⟩, ?_⟩; conv => whnf) | fail)
              exact hK _ (g, acc, a2, a2, 5) (.inr ⟨show (5 : Nat) ≠ 0 by decide, hI⟩) (SubS.mkN [] [(15, 15), (1000, 1000)] rfl rfl rfl ⟨⟨_, rfl, .same⟩, ⟨_, rfl, .ptr _ _ _ _ _ _ _ _ _ rfl rfl rfl rfl⟩, ⟨_, rfl, .row _ _ _ _ _ _ _ _ _ rfl rfl rfl rfl⟩, trivial⟩ ⟨.inl ⟨_, _, rfl, rfl, rfl, rfLe rfl rfl rfl rfl .same .same .same .same⟩, .inl ⟨_, _, rfl, rfl, rfl, .keepA⟩, trivial⟩)
            · rw [if_neg (by omega)] at hI
              conv => whnf
              repeat (first | ((with_reducible first | apply ga | apply gb | apply gc | apply gd | apply ge | apply gf | apply gg | apply gh | apply gi | apply gj); conv => whnf) | (refine ⟨⟨rfl, rfl, nle rfl, nle rfl⟩, ?_⟩; conv => whnf) | fail)
              exact hK _ (g, acc, a2, 0, 0) (.inl ⟨rfl, rfl, hI⟩) (SubS.mkN [] [(15, 15), (1000, 1000)] rfl rfl rfl ⟨⟨_, rfl, .same⟩, ⟨_, rfl, .ptr _ _ _ _ _ _ _ _ _ rfl rfl rfl rfl⟩, ⟨_, rfl, .row _ _ _ _ _ _ _ _ _ rfl rfl rfl rfl⟩, trivial⟩ ⟨.inl ⟨_, _, rfl, rfl, rfl, rfLe rfl rfl rfl rfl .same .same .same .same⟩, .inl ⟨_, _, rfl, rfl, rfl, .keepA⟩, trivial⟩)
          · have he' : ((e : Int) == 0) = false := beq_eq_false_iff_ne.mpr (by omega)
            conv => whnf
            repeat (first | ((with_reducible first | apply ga | apply gb | apply gc | apply gd | apply ge | apply gf | apply gg | apply gh | apply gi | apply gj); conv => whnf) | (refine ⟨⟨rfl, rfl, nle rfl, nle rfl⟩, ?_⟩; conv => whnf) | fail)
            repeat (refine ⟨⟨rfl, rfl, nle rfl, nle rfl⟩, ?_⟩; conv => whnf)
            repeat (first | ((with_reducible first | apply ga | apply gb | apply gc | apply gd | apply ge | apply gf | apply gg | apply gh | apply gi | apply gj); conv => whnf) | (refine ⟨⟨rfl, rfl, nle rfl, nle rfl⟩, ?_⟩; conv => whnf) | fail)
            refine ⟨fun h => absurd h (by rw [he']; decide), fun _ => ?_⟩
            conv => whnf
            repeat (first | ((with_reducible first | apply ga | apply gb | apply gc | apply gd | apply ge | apply gf | apply gg | apply gh | apply gi | apply gj); conv => whnf) | (refine ⟨⟨rfl, rfl, nle rfl, nle rfl⟩, ?_⟩; conv => whnf) | fail)
            exact hK _ (g, acc, a2, p, e) (.inr ⟨he, hI⟩) (SubS.mkN [] [(15, 15), (1000, 1000)] rfl rfl rfl ⟨⟨_, rfl, .same⟩, ⟨_, rfl, .ptr _ _ _ _ _ _ _ _ _ rfl rfl rfl rfl⟩, ⟨_, rfl, .row _ _ _ _ _ _ _ _ _ rfl rfl rfl rfl⟩, trivial⟩ ⟨.inl ⟨_, _, rfl, rfl, rfl, rfLe rfl rfl rfl rfl .same .same .same .same⟩, .inl ⟨_, _, rfl, rfl, rfl, .keepA⟩, trivial⟩)
        · clear hF
          rintro ⟨g, acc, a2, p, e⟩ hF
          dsimp only at hF ⊢
          refine awp_last tab_ok mixed ?_
          rcases hF with ⟨rfl, rfl, hI⟩ | ⟨he, hI⟩
          · conv => whnf
            repeat (first | ((with_reducible first | apply ga | apply gb | apply gc | apply gd | apply ge | apply gf | apply gg | apply gh | apply gi | apply gj); conv => whnf) | (refine ⟨⟨rfl, rfl, nle rfl, nle rfl⟩, ?_⟩; conv => whnf) | fail)
            repeat (refine ⟨⟨rfl, rfl, nle rfl, nle rfl⟩, ?_⟩; conv => whnf)
            repeat (first | ((with_reducible first | apply ga | apply gb | apply gc | apply gd | apply ge | apply gf | apply gg | apply gh | apply gi | apply gj); conv => whnf) | (refine ⟨⟨rfl, rfl, nle rfl, nle rfl⟩, ?_⟩; conv => whnf) | fail)
            refine ⟨fun h => absurd h (by simp), fun _ => ?_⟩
            conv => whnf
            repeat (first | ((with_reducible first | apply ga | apply gb | apply gc | apply gd | apply ge | apply gf | apply gg | apply gh | apply gi | apply gj); conv => whnf) | (refine ⟨⟨rfl, rfl, nle rfl, nle rfl⟩, ?_⟩; conv => whnf) | fail)
            rw [hI]
            exact done_tup [.pv (banksP acc), i64 0, i64 0] [1000] rfl ⟨VLe.frzA rfl rfl rfl, .same, .same, trivial⟩
          · have he' : ((e : Int) != 0) = true := by simp; omega
            conv => whnf
            repeat (first | ((with_reducible first | apply ga | apply gb | apply gc | apply gd | apply ge | apply gf | apply gg | apply gh | apply gi | apply gj); conv => whnf) | (refine ⟨⟨rfl, rfl, nle rfl, nle rfl⟩, ?_⟩; conv => whnf) | fail)
            repeat (refine ⟨⟨rfl, rfl, nle rfl, nle rfl⟩, ?_⟩; conv => whnf)
            repeat (first | ((with_reducible first | apply ga | apply gb | apply gc | apply gd | apply ge | apply gf | apply gg | apply gh | apply gi | apply gj); conv => whnf) | (refine ⟨⟨rfl, rfl, nle rfl, nle rfl⟩, ?_⟩; conv => whnf) | fail)
            refine ⟨fun _ => ?_, fun h => absurd h (by rw [he']; decide)⟩
            conv => whnf
            repeat (first | ((with_reducible first | apply ga | apply gb | apply gc | apply gd | apply ge | apply gf | apply gg | apply gh | apply gi | apply gj); conv => whnf) | (refine ⟨⟨rfl, rfl, nle rfl, nle rfl⟩, ?_⟩; conv => whnf) | fail)
            repeat (refine ⟨⟨rfl, rfl, nle rfl, nle rfl⟩, ?_⟩; conv => whnf)
            repeat (first | ((with_reducible first | apply ga | apply gb | apply gc | apply gd | apply ge | apply gf | apply gg | apply gh | apply gi | apply gj); conv => whnf) | (refine ⟨⟨rfl, rfl, nle rfl, nle rfl⟩, ?_⟩; conv => whnf) | fail)
            refine ⟨rfl, ?_⟩
            conv => whnf
            repeat (first | ((with_reducible first | apply ga | apply gb | apply gc | apply gd | apply ge | apply gf | apply gg | apply gh | apply gi | apply gj); conv => whnf) | (refine ⟨⟨rfl, rfl, nle rfl, nle rfl⟩, ?_⟩; conv => whnf) | fail)
            rw [hI]
            exact done_tup [.pv (banksP []), i64 p, i64 e] [] rfl ⟨VLe.nilA, .same, .same, trivial⟩
end Go.Proofs.Ytioccpodnkllfaa

namespace Go.Proofs.Ytioccpodnkllfaa
open Go Go.AM
attribute [local irreducible] AWP CallK PureCall SubS HeapCall HeapCallP HeapCallK
def pickB (n : Nat) (b : BankR) : Option BankR := if b.num ≠ n ∨ 200 < b.ws.length then none else if (sealR b).2 = 0 then some (sealR b).1 else none
def someI (l : List BankR) (n i : Nat) : Option BankR := ((l.take 100).drop i).findSome? (pickB n)
def someL (l : List BankR) : List BankR := (List.range 36).filterMap fun n => someI l n 0
theorem someI_in {l : List BankR} {n i : Nat} (h : i < l.length) (h2 : i < 100) : someI l n i = (match pickB n (l.getD i b0) with | some b => some b | none => someI l n (i + 1)) := by
  have h3 : i < (l.take 100).length := by rw [List.length_take]; omega
  have e : (l.take 100).getD i b0 = l.getD i b0 := by
    rw [List.getD_eq_getElem?_getD, List.getD_eq_getElem?_getD, List.getElem?_take_of_lt h2]
  unfold someI
  rw [drop_getD (d := b0) h3, e, List.findSome?_cons]
  cases pickB n (l.getD i b0) <;> rfl
theorem someI_out {l : List BankR} {n i : Nat} (h : ¬ (i < l.length ∧ i < 100)) : someI l n i = none := by
  unfold someI
  rw [List.drop_eq_nil_of_le (by rw [List.length_take]; omega)]; rfl
theorem someL_sn (l : List BankR) (n : Nat) : (List.range (n + 1)).filterMap (fun n => someI l n 0) = (List.range n).filterMap (fun n => someI l n 0) ++ (someI l n 0).toList := by
  rw [List.range_succ, List.filterMap_append]
  cases h : someI l n 0 with
  | none => simp [h]
  | some b => simp [h]
set_option maxHeartbeats 4000000 in
theorem f29 (l : List BankR) (h : BsB l) : PureCall Try.prog 29 [.pv (banksP l)] (.pv (banksP (someL l))) := by
  have hl := h.1
  refine PureCall.body tab_ok (by kernel_rfl) Try.func29 rfl rfl rfl ?_
  refine awp_piece tab_ok mixed ?_
  conv => whnf
  repeat (first | ((with_reducible first | apply ga | apply gb | apply gc | apply gd | apply ge | apply gf | apply gg | apply gh | apply gi | apply gj); conv => whnf) | (refine ⟨⟨rfl, rfl, nle rfl, nle rfl⟩, ?_⟩; conv => whnf) | fail)
  refine awp_piece tab_ok mixed ?_
  conv => whnf
  repeat (first | ((with_reducible first | apply ga | apply gb | apply gc | apply gd | apply ge | apply gf | apply gg | apply gh | apply gi | apply gj); conv => whnf) | (refine ⟨⟨rfl, rfl, nle rfl, nle rfl⟩, ?_⟩; conv => whnf) | fail)
  refine awp_cut (α := Nat) (fun g => mkSt 53 [(0, .pv (banksP l)), (3, .row 1000 g 2 0 (someL l).length)] [(1000, rowA 35 2 BankR.p b0 g (someL l))]) (fun _ => True) (fun K hK => ?_) ?_
  · refine awp_piece tab_ok mixed ?_
    conv => whnf
    repeat (first | ((with_reducible first | apply ga | apply gb | apply gc | apply gd | apply ge | apply gf | apply gg | apply gh | apply gi | apply gj); conv => whnf) | (refine ⟨⟨rfl, rfl, nle rfl, nle rfl⟩, ?_⟩; conv => whnf) | fail)
    refine awp_block (awp_loopI (fun x : Nat × Nat × List BankR => (x.1 ≤ 36 ∧ x.2.2.length ≤ x.1) ∧ x.2.2 = (List.range x.1).filterMap fun n => someI l n 0)
      (fun x => mkSt 53 [(0, .pv (banksP l)), (3, .row 1000 x.2.1 2 0 x.2.2.length), (4, i64 x.1)] [(1000, rowA 35 2 BankR.p b0 x.2.1 x.2.2)]) (fun x => 36 - x.1) (0, 0, []) ⟨⟨Nat.zero_le _, Nat.le_refl _⟩, rfl⟩
      (SubS.mkN [] [] rfl rfl rfl ⟨⟨_, rfl, .same⟩, ⟨_, rfl, .void _ _ _⟩, ⟨_, rfl, .same⟩, trivial⟩ ⟨.inr (.inl ⟨rfl, rfl⟩), trivial⟩) ?_)
    rintro ⟨n, g, out⟩ ⟨⟨hn, hol⟩, ho⟩
    dsimp only at hn hol ho ⊢
    refine awp_piece tab_ok mixed ?_
    conv => whnf
    repeat (first | ((with_reducible first | apply ga | apply gb | apply gc | apply gd | apply ge | apply gf | apply gg | apply gh | apply gi | apply gj); conv => whnf) | (refine ⟨⟨rfl, rfl, nle rfl, nle rfl⟩, ?_⟩; conv => whnf) | fail)
    refine ⟨fun hc => ?_, fun hc => ?_⟩ <;> replace hc := nm hc <;> (try rw [Int.toNat_zero] at hc) <;> (try rw [Int.toNat_one] at hc)
    · conv => whnf
      repeat (first | ((with_reducible first | apply ga | apply gb | apply gc | apply gd | apply ge | apply gf | apply gg | apply gh | apply gi | apply gj); conv => whnf) | (refine ⟨⟨rfl, rfl, nle rfl, nle rfl⟩, ?_⟩; conv => whnf) | fail)
      refine awp_cut (α := Nat) (fun g => mkSt 53 [(0, .pv (banksP l)), (3, .row 1000 g 2 0 (out ++ (someI l n 0).toList).length), (4, i64 n)] [(1000, rowA 35 2 BankR.p b0 g (out ++ (someI l n 0).toList))]) (fun _ => True) (fun K' hK' => awp_block ?_) ?_
      · refine awp_piece tab_ok mixed ?_
        conv => whnf
        repeat (first | ((with_reducible first | apply ga | apply gb | apply gc | apply gd | apply ge | apply gf | apply gg | apply gh | apply gi | apply gj); conv => whnf) | (refine ⟨⟨rfl, rfl, nle rfl, nle rfl⟩, ?_⟩; conv => whnf) | fail)
        refine awp_block (awp_loopI (fun i : Nat => someI l n 0 = someI l n i)
          (fun i => mkSt 53 [(0, .pv (banksP l)), (3, .row 1000 g 2 0 out.length), (4, i64 n), (5, i64 i)] [(1000, rowA 35 2 BankR.p b0 g out)]) (fun i => 100 - i) 0 rfl (SubS.mkN [] [(1000, 1000)] rfl rfl rfl ⟨⟨_, rfl, .same⟩, ⟨_, rfl, .row _ _ _ _ _ _ _ _ _ rfl rfl rfl rfl⟩, ⟨_, rfl, .same⟩, ⟨_, rfl, .same⟩, trivial⟩ ⟨.inl ⟨_, _, rfl, rfl, rfl, .keepA⟩, trivial⟩) ?_)
        intro i hI
        refine awp_piece tab_ok mixed ?_
        conv => whnf
        repeat (first | ((with_reducible first | apply ga | apply gb | apply gc | apply gd | apply ge | apply gf | apply gg | apply gh | apply gi | apply gj); conv => whnf) | (refine ⟨⟨rfl, rfl, nle rfl, nle rfl⟩, ?_⟩; conv => whnf) | fail)
        refine ⟨fun h1 => ?_, fun h1 => ?_⟩ <;> replace h1 := nm h1 <;> (try rw [Int.toNat_zero] at h1) <;> (try rw [Int.toNat_one] at h1)
        · have h1 : i < l.length := by omega
          have hb := bsB h h1
          have hbl := hb.2.1
          conv => whnf
          repeat (first | ((with_reducible first | apply ga | apply gb | apply gc | apply gd | apply ge | apply gf | apply gg | apply gh | apply gi | apply gj); conv => whnf) | (refine ⟨⟨rfl, rfl, nle rfl, nle rfl⟩, ?_⟩; conv => whnf) | fail)
          refine ⟨fun h2 => ?_, fun h2 => ?_⟩ <;> replace h2 := nm h2 <;> (try rw [Int.toNat_zero] at h2) <;> (try rw [Int.toNat_one] at h2)
          · have h2 : i < 100 := by omega
            conv => whnf
            repeat (first | ((with_reducible first | apply ga | apply gb | apply gc | apply gd | apply ge | apply gf | apply gg | apply gh | apply gi | apply gj); conv => whnf) | (refine ⟨⟨rfl, rfl, nle rfl, nle rfl⟩, ?_⟩; conv => whnf) | fail)
            refine awp_seq (awp_block ?_)
            refine awp_piece tab_ok mixed ?_
            conv => whnf
            repeat (first | ((with_reducible first | apply ga | apply gb | apply gc | apply gd | apply ge | apply gf | apply gg | apply gh | apply gi | apply gj); conv => whnf) | (refine ⟨⟨rfl, rfl, nle rfl, nle rfl⟩, ?_⟩; conv => whnf) | fail)
            refine ⟨⟨by omega, by omega, rfl⟩, ?_⟩
            conv => whnf
            repeat (first | ((with_reducible first | apply ga | apply gb | apply gc | apply gd | apply ge | apply gf | apply gg | apply gh | apply gi | apply gj); conv => whnf) | (refine ⟨⟨rfl, rfl, nle rfl, nle rfl⟩, ?_⟩; conv => whnf) | fail)
            refine ⟨⟨by decide⟩, ?_⟩
            conv => whnf
            repeat (first | ((with_reducible first | apply ga | apply gb | apply gc | apply gd | apply ge | apply gf | apply gg | apply gh | apply gi | apply gj); conv => whnf) | (refine ⟨⟨rfl, rfl, nle rfl, nle rfl⟩, ?_⟩; conv => whnf) | fail)
            refine ⟨⟨by decide⟩, ?_⟩
            conv => whnf
            repeat (first | ((with_reducible first | apply ga | apply gb | apply gc | apply gd | apply ge | apply gf | apply gg | apply gh | apply gi | apply gj); conv => whnf) | (refine ⟨⟨rfl, rfl, nle rfl, nle rfl⟩, ?_⟩; conv => whnf) | fail)
            refine ⟨fun h3 => ?_, fun h3 => ?_⟩ <;> replace h3 := nm h3 <;> (try rw [Int.toNat_zero] at h3) <;> (try rw [Int.toNat_one] at h3)
            · rw [Int.toNat_natCast] at h3
              conv => whnf
              repeat (first | ((with_reducible first | apply ga | apply gb | apply gc | apply gd | apply ge | apply gf | apply gg | apply gh | apply gi | apply gj); conv => whnf) | (refine ⟨⟨rfl, rfl, nle rfl, nle rfl⟩, ?_⟩; conv => whnf) | fail)
              refine ⟨⟨by omega, by omega, rfl⟩, ?_⟩
              conv => whnf
              repeat (first | ((with_reducible first | apply ga | apply gb | apply gc | apply gd | apply ge | apply gf | apply gg | apply gh | apply gi | apply gj); conv => whnf) | (refine ⟨⟨rfl, rfl, nle rfl, nle rfl⟩, ?_⟩; conv => whnf) | fail)
              refine ⟨⟨by decide⟩, ?_⟩
              conv => whnf
              repeat (first | ((with_reducible first | apply ga | apply gb | apply gc | apply gd | apply ge | apply gf | apply gg | apply gh | apply gi | apply gj); conv => whnf) | (refine ⟨⟨rfl, rfl, nle rfl, nle rfl⟩, ?_⟩; conv => whnf) | fail)
              refine ⟨⟨by decide⟩, ?_⟩
              conv => whnf
              repeat (first | ((with_reducible first | apply ga | apply gb | apply gc | apply gd | apply ge | apply gf | apply gg | apply gh | apply gi | apply gj); conv => whnf) | (refine ⟨⟨rfl, rfl, nle rfl, nle rfl⟩, ?_⟩; conv => whnf) | fail)
              rw [Int.toNat_natCast]
              refine ⟨fun h4 => ?_, fun h4 => ?_⟩ <;> replace h4 := nm h4 <;> (try rw [Int.toNat_zero] at h4) <;> (try rw [Int.toNat_one] at h4)
              · conv => whnf
                repeat (first | ((with_reducible first | apply ga | apply gb | apply gc | apply gd | apply ge | apply gf | apply gg | apply gh | apply gi | apply gj); conv => whnf) | (refine ⟨⟨rfl, rfl, nle rfl, nle rfl⟩, ?_⟩; conv => whnf) | fail)
                refine awp_last tab_ok mixed ?_
                conv => whnf
                repeat (first | ((with_reducible first | apply ga | apply gb | apply gc | apply gd | apply ge | apply gf | apply gg | apply gh | apply gi | apply gj); conv => whnf) | (refine ⟨⟨rfl, rfl, nle rfl, nle rfl⟩, ?_⟩; conv => whnf) | fail)
                refine ⟨⟨by unfold inI64; omega⟩, ?_⟩
                conv => whnf
                repeat (first | ((with_reducible first | apply ga | apply gb | apply gc | apply gd | apply ge | apply gf | apply gg | apply gh | apply gi | apply gj); conv => whnf) | (refine ⟨⟨rfl, rfl, nle rfl, nle rfl⟩, ?_⟩; conv => whnf) | fail)
                exact ⟨i + 1, by rw [hI, someI_in h1 h2, show pickB n (l.getD i b0) = none by unfold pickB; rw [if_pos (.inr (by omega))]], (SubS.mkN [] [(1000, 1000)] rfl rfl rfl ⟨⟨_, rfl, .same⟩, ⟨_, rfl, .row _ _ _ _ _ _ _ _ _ rfl rfl rfl rfl⟩, ⟨_, rfl, .same⟩, ⟨_, rfl, .same⟩, trivial⟩ ⟨.inl ⟨_, _, rfl, rfl, rfl, .keepA⟩, trivial⟩), by omega⟩
              · conv => whnf
                repeat (first | ((with_reducible first | apply ga | apply gb | apply gc | apply gd | apply ge | apply gf | apply gg | apply gh | apply gi | apply gj); conv => whnf) | (refine ⟨⟨rfl, rfl, nle rfl, nle rfl⟩, ?_⟩; conv => whnf) | fail)
                refine awp_piece tab_ok mixed ?_
                conv => whnf
                repeat (first | ((with_reducible first | apply ga | apply gb | apply gc | apply gd | apply ge | apply gf | apply gg | apply gh | apply gi | apply gj); conv => whnf) | (refine ⟨⟨rfl, rfl, nle rfl, nle rfl⟩, ?_⟩; conv => whnf) | fail)
                refine ⟨⟨by omega, by omega, rfl⟩, ?_⟩
                conv => whnf
                repeat (first | ((with_reducible first | apply ga | apply gb | apply gc | apply gd | apply ge | apply gf | apply gg | apply gh | apply gi | apply gj); conv => whnf) | (refine ⟨⟨rfl, rfl, nle rfl, nle rfl⟩, ?_⟩; conv => whnf) | fail)
                refine ⟨⟨by decide⟩, ?_⟩
                conv => whnf
                repeat (first | ((with_reducible first | apply ga | apply gb | apply gc | apply gd | apply ge | apply gf | apply gg | apply gh | apply gi | apply gj); conv => whnf) | (refine ⟨⟨rfl, rfl, nle rfl, nle rfl⟩, ?_⟩; conv => whnf) | fail)
                refine CallK.drop [] (f19 (l.getD i b0) hb) ⟨agg2 .same .same, trivial⟩ ?_
                conv => whnf
                repeat (first | ((with_reducible first | apply ga | apply gb | apply gc | apply gd | apply ge | apply gf | apply gg | apply gh | apply gi | apply gj); conv => whnf) | (refine ⟨⟨rfl, rfl, nle rfl, nle rfl⟩, ?_⟩; conv => whnf) | fail)
                refine awp_last tab_ok mixed ?_
                conv => whnf
                repeat (first | ((with_reducible first | apply ga | apply gb | apply gc | apply gd | apply ge | apply gf | apply gg | apply gh | apply gi | apply gj); conv => whnf) | (refine ⟨⟨rfl, rfl, nle rfl, nle rfl⟩, ?_⟩; conv => whnf) | fail)
                refine ⟨fun h5 => ?_, fun h5 => ?_⟩ <;> replace h5 := nm h5 <;> (try rw [Int.toNat_zero] at h5) <;> (try rw [Int.toNat_one] at h5)
                · have hp : someI l n 0 = some (sealR (l.getD i b0)).1 := by rw [hI, someI_in h1 h2, show pickB n (l.getD i b0) = some (sealR (l.getD i b0)).1 by unfold pickB; rw [if_neg (by omega), if_pos h5]]
                  conv => whnf
                  repeat (first | ((with_reducible first | apply ga | apply gb | apply gc | apply gd | apply ge | apply gf | apply gg | apply gh | apply gi | apply gj); conv => whnf) | (refine ⟨⟨rfl, rfl, nle rfl, nle rfl⟩, ?_⟩; conv => whnf) | fail)
                  repeat (refine ⟨⟨rfl, rfl, nle rfl, nle rfl⟩, ?_⟩; conv => whnf)
                  repeat (first | ((with_reducible first | apply ga | apply gb | apply gc | apply gd | apply ge | apply gf | apply gg | apply gh | apply gi | apply gj); conv => whnf) | (refine ⟨⟨rfl, rfl, nle rfl, nle rfl⟩, ?_⟩; conv => whnf) | fail)
                  refine ⟨⟨⟨rfl, rfl, rfl, nle rfl⟩, rfl, rfl, rfl, rfl, rfl, rfl, by show (out.length + 1) * 32 ≤ _; omega⟩, ?_⟩
                  conv => whnf
                  repeat (first | ((with_reducible first | apply ga | apply gb | apply gc | apply gd | apply ge | apply gf | apply gg | apply gh | apply gi | apply gj); conv => whnf) | (refine ⟨⟨rfl, rfl, nle rfl, nle rfl⟩, ?_⟩; conv => whnf) | fail)
                  rw [hp] at hK'
                  refine hK' _ (g + 1) trivial (SubS.mkN [] [(1000, 1000)] rfl rfl rfl ⟨⟨_, rfl, .same⟩, ⟨_, rfl, .row _ _ _ _ _ _ _ _ _ rfl rfl rfl (by simp)⟩, ⟨_, rfl, .same⟩, trivial⟩ ⟨.inl ⟨_, _, rfl, rfl, rfl, OLe.snocA rfl rfl rfl rfl rfl fun j hj => ?_⟩, trivial⟩)
                  match j, hj with
                  | 0, _ => exact .same
                  | 1, _ => exact .same
                · conv => whnf
                  repeat (first | ((with_reducible first | apply ga | apply gb | apply gc | apply gd | apply ge | apply gf | apply gg | apply gh | apply gi | apply gj); conv => whnf) | (refine ⟨⟨rfl, rfl, nle rfl, nle rfl⟩, ?_⟩; conv => whnf) | fail)
                  refine awp_last tab_ok mixed ?_
                  conv => whnf
                  repeat (first | ((with_reducible first | apply ga | apply gb | apply gc | apply gd | apply ge | apply gf | apply gg | apply gh | apply gi | apply gj); conv => whnf) | (refine ⟨⟨rfl, rfl, nle rfl, nle rfl⟩, ?_⟩; conv => whnf) | fail)
                  refine ⟨⟨by unfold inI64; omega⟩, ?_⟩
                  conv => whnf
                  repeat (first | ((with_reducible first | apply ga | apply gb | apply gc | apply gd | apply ge | apply gf | apply gg | apply gh | apply gi | apply gj); conv => whnf) | (refine ⟨⟨rfl, rfl, nle rfl, nle rfl⟩, ?_⟩; conv => whnf) | fail)
                  exact ⟨i + 1, by rw [hI, someI_in h1 h2, show pickB n (l.getD i b0) = none by unfold pickB; rw [if_neg (by omega), if_neg h5]], (SubS.mkN [] [(1000, 1000)] rfl rfl rfl ⟨⟨_, rfl, .same⟩, ⟨_, rfl, .row _ _ _ _ _ _ _ _ _ rfl rfl rfl rfl⟩, ⟨_, rfl, .same⟩, ⟨_, rfl, .same⟩, trivial⟩ ⟨.inl ⟨_, _, rfl, rfl, rfl, .keepA⟩, trivial⟩), by omega⟩
            · rw [Int.toNat_natCast] at h3
              conv => whnf
              repeat (first | ((with_reducible first | apply ga | apply gb | apply gc | apply gd | apply ge | apply gf | apply gg | apply gh | apply gi | apply gj); conv => whnf) | (refine ⟨⟨rfl, rfl, nle rfl, nle rfl⟩, ?_⟩; conv => whnf) | fail)
              refine awp_last tab_ok mixed ?_
              conv => whnf
              repeat (first | ((with_reducible first | apply ga | apply gb | apply gc | apply gd | apply ge | apply gf | apply gg | apply gh | apply gi | apply gj); conv => whnf) | (refine ⟨⟨rfl, rfl, nle rfl, nle rfl⟩, ?_⟩; conv => whnf) | fail)
              refine ⟨⟨by unfold inI64; omega⟩, ?_⟩
              conv => whnf
              repeat (first | ((with_reducible first | apply ga | apply gb | apply gc | apply gd | apply ge | apply gf | apply gg | apply gh | apply gi | apply gj); conv => whnf) | (refine ⟨⟨rfl, rfl, nle rfl, nle rfl⟩, ?_⟩; conv => whnf) | fail)
              exact ⟨i + 1, by rw [hI, someI_in h1 h2, show pickB n (l.getD i b0) = none by unfold pickB; rw [if_pos (.inl h3)]], (SubS.mkN [] [(1000, 1000)] rfl rfl rfl ⟨⟨_, rfl, .same⟩, ⟨_, rfl, .row _ _ _ _ _ _ _ _ _ rfl rfl rfl rfl⟩, ⟨_, rfl, .same⟩, ⟨_, rfl, .same⟩, trivial⟩ ⟨.inl ⟨_, _, rfl, rfl, rfl, .keepA⟩, trivial⟩), by omega⟩
          · rw [someI_out (i := i) (by omega)] at hI
            conv => whnf
            repeat (first | ((with_reducible first | apply ga | apply gb | apply gc | apply gd | apply ge | apply gf | apply gg | apply gh | apply gi | apply gj); conv => whnf) | (refine ⟨⟨rfl, rfl, nle rfl, nle rfl⟩, ?_⟩; conv => whnf) | fail)
            rw [hI, show (none : Option BankR).toList = [] from rfl, List.append_nil] at hK'
            exact hK' _ g trivial (SubS.mkN [] [(1000, 1000)] rfl rfl rfl ⟨⟨_, rfl, .same⟩, ⟨_, rfl, .row _ _ _ _ _ _ _ _ _ rfl rfl rfl rfl⟩, ⟨_, rfl, .same⟩, trivial⟩ ⟨.inl ⟨_, _, rfl, rfl, rfl, .keepA⟩, trivial⟩)
        · rw [someI_out (i := i) (by omega)] at hI
          conv => whnf
          repeat (first | ((with_reducible first | apply ga | apply gb | apply gc | apply gd | apply ge | apply gf | apply gg | apply gh | apply gi | apply gj); conv => whnf) | (refine ⟨⟨rfl, rfl, nle rfl, nle rfl⟩, ?_⟩; conv => whnf) | fail)
          rw [hI, show (none : Option BankR).toList = [] from rfl, List.append_nil] at hK'
          exact hK' _ g trivial (SubS.mkN [] [(1000, 1000)] rfl rfl rfl ⟨⟨_, rfl, .same⟩, ⟨_, rfl, .row _ _ _ _ _ _ _ _ _ rfl rfl rfl rfl⟩, ⟨_, rfl, .same⟩, trivial⟩ ⟨.inl ⟨_, _, rfl, rfl, rfl, .keepA⟩, trivial⟩)
      · rintro g' -
        refine awp_last tab_ok mixed ?_
        conv => whnf
        repeat (first | ((with_reducible first | apply ga | apply gb | apply gc | apply gd | apply ge | apply gf | apply gg | apply gh | apply gi | apply gj); conv => whnf) | (refine ⟨⟨rfl, rfl, nle rfl, nle rfl⟩, ?_⟩; conv => whnf) | fail)
        refine ⟨⟨by unfold inI64; omega⟩, ?_⟩
        conv => whnf
        repeat (first | ((with_reducible first | apply ga | apply gb | apply gc | apply gd | apply ge | apply gf | apply gg | apply gh | apply gi | apply gj); conv => whnf) | (refine ⟨⟨rfl, rfl, nle rfl, nle rfl⟩, ?_⟩; conv => whnf) | fail)
        refine ⟨(n + 1, g', out ++ (someI l n 0).toList), ⟨⟨by dsimp only; omega, ?_⟩, ?_⟩, (SubS.mkN [] [(1000, 1000)] rfl rfl rfl ⟨⟨_, rfl, .same⟩, ⟨_, rfl, .row _ _ _ _ _ _ _ _ _ rfl rfl rfl rfl⟩, ⟨_, rfl, .same⟩, trivial⟩ ⟨.inl ⟨_, _, rfl, rfl, rfl, .keepA⟩, trivial⟩), by dsimp only; omega⟩
        · dsimp only
          rw [List.length_append]
          cases someI l n 0 <;> simp <;> omega
        · dsimp only
          rw [someL_sn, ho]
    · obtain rfl : n = 36 := by omega
      have e : out = someL l := ho
      subst e
      conv => whnf
      repeat (first | ((with_reducible first | apply ga | apply gb | apply gc | apply gd | apply ge | apply gf | apply gg | apply gh | apply gi | apply gj); conv => whnf) | (refine ⟨⟨rfl, rfl, nle rfl, nle rfl⟩, ?_⟩; conv => whnf) | fail)
      exact hK _ g trivial (SubS.mkN [] [(1000, 1000)] rfl rfl rfl ⟨⟨_, rfl, .same⟩, ⟨_, rfl, .row _ _ _ _ _ _ _ _ _ rfl rfl rfl rfl⟩, trivial⟩ ⟨.inl ⟨_, _, rfl, rfl, rfl, .keepA⟩, trivial⟩)
  · rintro g -
    refine awp_last tab_ok mixed ?_
    conv => whnf
    repeat (first | ((with_reducible first | apply ga | apply gb | apply gc | apply gd | apply ge | apply gf | apply gg | apply gh | apply gi | apply gj); conv => whnf) | (refine ⟨⟨rfl, rfl, nle rfl, nle rfl⟩, ?_⟩; conv => whnf) | fail)
    exact ⟨[1000], VLe.frzA rfl rfl rfl⟩
end Go.Proofs.Ytioccpodnkllfaa
