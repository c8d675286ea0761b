/- Part of the proof: what the functions that the law calls compute (2). -/
import Derived.Test.YtolgdbekdkldjaaDoorV1
namespace Go.Proofs.YtolgdbekdkldjaaDoor
open Go Go.AM
attribute [local irreducible] AWP CallK PureCall SubS HeapCall
def opG (a : Int) (b : List UInt8) (c : Bool) (k d e : Int) : AV := .agg 6 (getL [u8 a, st b, bb c, u8 k, i64 d, i64 e])
theorem agg6 {H : Heap} {B : List Nat} {U : List (Nat × Nat)} {f g : Nat → AV} (h0 : VLe H B U (f 0) (g 0)) (h1 : VLe H B U (f 1) (g 1)) (h2 : VLe H B U (f 2) (g 2)) (h3 : VLe H B U (f 3) (g 3)) (h4 : VLe H B U (f 4) (g 4)) (h5 : VLe H B U (f 5) (g 5)) : VLe H B U (.agg 6 f) (.agg 6 g) :=
  .agg _ _ _ fun i hi => match i, hi with
    | 0, _ => h0
    | 1, _ => h1
    | 2, _ => h2
    | 3, _ => h3
    | 4, _ => h4
    | 5, _ => h5
def bitN (k : Nat) : Nat := match k with | 1 => 10 | 2 => 12 | 3 => 12 | 4 => 9 | _ => 0
theorem f45 : ∀ k : Nat, k ≤ 4 → PureCall Tryd.prog 45 [u8 k] (i64 (bitN k))
  | 0, _ => by
    refine PureCall.run tab_ok mixed (by kernel_rfl) Tryd.func45 rfl rfl rfl ?_
    conv => whnf
    repeat (first | ((with_reducible first | apply ga | apply gb | apply gc | apply gd | apply ge | apply gf | apply gg | apply gh | apply gi | apply gj); conv => whnf) | (refine ⟨⟨rfl, rfl, nle rfl, nle rfl⟩, ?_⟩; conv => whnf) | fail)
    repeat (first | ((with_reducible first | apply ga | apply gb | apply gc | apply gd | apply ge | apply gf | apply gg | apply gh | apply gi | apply gj); conv => whnf) | (refine ⟨⟨rfl, rfl, nle rfl, nle rfl⟩, ?_⟩; conv => whnf) | (refine ⟨fun _ => ?_, fun h => absurd h (by decide +kernel)⟩; conv => whnf) | (refine ⟨fun h => absurd h (by decide +kernel), fun _ => ?_⟩; conv => whnf) | fail)
    exact ⟨[], .same⟩
  | 1, _ => by
    refine PureCall.run tab_ok mixed (by kernel_rfl) Tryd.func45 rfl rfl rfl ?_
    conv => whnf
    repeat (first | ((with_reducible first | apply ga | apply gb | apply gc | apply gd | apply ge | apply gf | apply gg | apply gh | apply gi | apply gj); conv => whnf) | (refine ⟨⟨rfl, rfl, nle rfl, nle rfl⟩, ?_⟩; conv => whnf) | fail)
    repeat (first | ((with_reducible first | apply ga | apply gb | apply gc | apply gd | apply ge | apply gf | apply gg | apply gh | apply gi | apply gj); conv => whnf) | (refine ⟨⟨rfl, rfl, nle rfl, nle rfl⟩, ?_⟩; conv => whnf) | (refine ⟨fun _ => ?_, fun h => absurd h (by decide +kernel)⟩; conv => whnf) | (refine ⟨fun h => absurd h (by decide +kernel), fun _ => ?_⟩; conv => whnf) | fail)
    exact ⟨[], .same⟩
  | 2, _ => by
    refine PureCall.run tab_ok mixed (by kernel_rfl) Tryd.func45 rfl rfl rfl ?_
    conv => whnf
    repeat (first | ((with_reducible first | apply ga | apply gb | apply gc | apply gd | apply ge | apply gf | apply gg | apply gh | apply gi | apply gj); conv => whnf) | (refine ⟨⟨rfl, rfl, nle rfl, nle rfl⟩, ?_⟩; conv => whnf) | fail)
    repeat (first | ((with_reducible first | apply ga | apply gb | apply gc | apply gd | apply ge | apply gf | apply gg | apply gh | apply gi | apply gj); conv => whnf) | (refine ⟨⟨rfl, rfl, nle rfl, nle rfl⟩, ?_⟩; conv => whnf) | (refine ⟨fun _ => ?_, fun h => absurd h (by decide +kernel)⟩; conv => whnf) | (refine ⟨fun h => absurd h (by decide +kernel), fun _ => ?_⟩; conv => whnf) | fail)
    exact ⟨[], .same⟩
  | 3, _ => by
    refine PureCall.run tab_ok mixed (by kernel_rfl) Tryd.func45 rfl rfl rfl ?_
    conv => whnf
    repeat (first | ((with_reducible first | apply ga | apply gb | apply gc | apply gd | apply ge | apply gf | apply gg | apply gh | apply gi | apply gj); conv => whnf) | (refine ⟨⟨rfl, rfl, nle rfl, nle rfl⟩, ?_⟩; conv => whnf) | fail)
    repeat (first | ((with_reducible first | apply ga | apply gb | apply gc | apply gd | apply ge | apply gf | apply gg | apply gh | apply gi | apply gj); conv => whnf) | (refine ⟨⟨rfl, rfl, nle rfl, nle rfl⟩, ?_⟩; conv => whnf) | (refine ⟨fun _ => ?_, fun h => absurd h (by decide +kernel)⟩; conv => whnf) | (refine ⟨fun h => absurd h (by decide +kernel), fun _ => ?_⟩; conv => whnf) | fail)
    exact ⟨[], .same⟩
  | 4, _ => by
    refine PureCall.run tab_ok mixed (by kernel_rfl) Tryd.func45 rfl rfl rfl ?_
    conv => whnf
    repeat (first | ((with_reducible first | apply ga | apply gb | apply gc | apply gd | apply ge | apply gf | apply gg | apply gh | apply gi | apply gj); conv => whnf) | (refine ⟨⟨rfl, rfl, nle rfl, nle rfl⟩, ?_⟩; conv => whnf) | fail)
    repeat (first | ((with_reducible first | apply ga | apply gb | apply gc | apply gd | apply ge | apply gf | apply gg | apply gh | apply gi | apply gj); conv => whnf) | (refine ⟨⟨rfl, rfl, nle rfl, nle rfl⟩, ?_⟩; conv => whnf) | (refine ⟨fun _ => ?_, fun h => absurd h (by decide +kernel)⟩; conv => whnf) | (refine ⟨fun h => absurd h (by decide +kernel), fun _ => ?_⟩; conv => whnf) | fail)
    exact ⟨[], .same⟩
  | k + 5, h => absurd h (by omega)
def rngV (k : Nat) : AV := tupV [i64 (lst k), i64 (mst k)]
theorem f43 (a : Int) (b : List UInt8) (c : Bool) (d e : Int) : ∀ k : Nat, k ≤ 4 → PureCall Tryd.prog 43 [opG a b c k d e] (rngV k)
  | 0, h => by
    refine PureCall.run tab_ok mixed (by kernel_rfl) Tryd.func43 rfl rfl rfl ?_
    conv => whnf
    repeat (first | ((with_reducible first | apply ga | apply gb | apply gc | apply gd | apply ge | apply gf | apply gg | apply gh | apply gi | apply gj); conv => whnf) | (refine ⟨⟨rfl, rfl, nle rfl, nle rfl⟩, ?_⟩; conv => whnf) | fail)
    repeat (first | ((with_reducible first | apply ga | apply gb | apply gc | apply gd | apply ge | apply gf | apply gg | apply gh | apply gi | apply gj); conv => whnf) | (refine ⟨⟨rfl, rfl, nle rfl, nle rfl⟩, ?_⟩; conv => whnf) | (refine ⟨fun _ => ?_, fun h => absurd h (by decide +kernel)⟩; conv => whnf) | (refine ⟨fun h => absurd h (by decide +kernel), fun _ => ?_⟩; conv => whnf) | fail)
    refine ⟨_, [], ⟨_, (f45 0 h), ⟨.same, trivial⟩, .inl rfl⟩, ?_⟩
    conv => whnf
    repeat (first | ((with_reducible first | apply ga | apply gb | apply gc | apply gd | apply ge | apply gf | apply gg | apply gh | apply gi | apply gj); conv => whnf) | (refine ⟨⟨rfl, rfl, nle rfl, nle rfl⟩, ?_⟩; conv => whnf) | fail)
    repeat (first | (refine ⟨⟨by decide⟩, ?_⟩; conv => whnf) | (refine ⟨⟨by unfold inI64; decide⟩, ?_⟩; conv => whnf))
    refine ⟨rfl, ?_⟩
    conv => whnf
    repeat (first | ((with_reducible first | apply ga | apply gb | apply gc | apply gd | apply ge | apply gf | apply gg | apply gh | apply gi | apply gj); conv => whnf) | (refine ⟨⟨rfl, rfl, nle rfl, nle rfl⟩, ?_⟩; conv => whnf) | fail)
    exact done_tup [i64 (lst 0), i64 (mst 0)] [] rfl ⟨VLe.int (by decide), VLe.int (by decide), trivial⟩
  | 1, h => by
    refine PureCall.run tab_ok mixed (by kernel_rfl) Tryd.func43 rfl rfl rfl ?_
    conv => whnf
    repeat (first | ((with_reducible first | apply ga | apply gb | apply gc | apply gd | apply ge | apply gf | apply gg | apply gh | apply gi | apply gj); conv => whnf) | (refine ⟨⟨rfl, rfl, nle rfl, nle rfl⟩, ?_⟩; conv => whnf) | fail)
    repeat (first | ((with_reducible first | apply ga | apply gb | apply gc | apply gd | apply ge | apply gf | apply gg | apply gh | apply gi | apply gj); conv => whnf) | (refine ⟨⟨rfl, rfl, nle rfl, nle rfl⟩, ?_⟩; conv => whnf) | (refine ⟨fun _ => ?_, fun h => absurd h (by decide +kernel)⟩; conv => whnf) | (refine ⟨fun h => absurd h (by decide +kernel), fun _ => ?_⟩; conv => whnf) | fail)
    refine ⟨_, [], ⟨_, (f45 1 h), ⟨.same, trivial⟩, .inl rfl⟩, ?_⟩
    conv => whnf
    repeat (first | ((with_reducible first | apply ga | apply gb | apply gc | apply gd | apply ge | apply gf | apply gg | apply gh | apply gi | apply gj); conv => whnf) | (refine ⟨⟨rfl, rfl, nle rfl, nle rfl⟩, ?_⟩; conv => whnf) | fail)
    repeat (first | (refine ⟨⟨by decide⟩, ?_⟩; conv => whnf) | (refine ⟨⟨by unfold inI64; decide⟩, ?_⟩; conv => whnf))
    refine ⟨rfl, ?_⟩
    conv => whnf
    repeat (first | ((with_reducible first | apply ga | apply gb | apply gc | apply gd | apply ge | apply gf | apply gg | apply gh | apply gi | apply gj); conv => whnf) | (refine ⟨⟨rfl, rfl, nle rfl, nle rfl⟩, ?_⟩; conv => whnf) | fail)
    exact done_tup [i64 (lst 1), i64 (mst 1)] [] rfl ⟨VLe.int (by decide), VLe.int (by decide), trivial⟩
  | 2, h => by
    refine PureCall.run tab_ok mixed (by kernel_rfl) Tryd.func43 rfl rfl rfl ?_
    conv => whnf
    repeat (first | ((with_reducible first | apply ga | apply gb | apply gc | apply gd | apply ge | apply gf | apply gg | apply gh | apply gi | apply gj); conv => whnf) | (refine ⟨⟨rfl, rfl, nle rfl, nle rfl⟩, ?_⟩; conv => whnf) | fail)
    repeat (first | ((with_reducible first | apply ga | apply gb | apply gc | apply gd | apply ge | apply gf | apply gg | apply gh | apply gi | apply gj); conv => whnf) | (refine ⟨⟨rfl, rfl, nle rfl, nle rfl⟩, ?_⟩; conv => whnf) | (refine ⟨fun _ => ?_, fun h => absurd h (by decide +kernel)⟩; conv => whnf) | (refine ⟨fun h => absurd h (by decide +kernel), fun _ => ?_⟩; conv => whnf) | fail)
    refine ⟨_, [], ⟨_, (f45 2 h), ⟨.same, trivial⟩, .inl rfl⟩, ?_⟩
    conv => whnf
    repeat (first | ((with_reducible first | apply ga | apply gb | apply gc | apply gd | apply ge | apply gf | apply gg | apply gh | apply gi | apply gj); conv => whnf) | (refine ⟨⟨rfl, rfl, nle rfl, nle rfl⟩, ?_⟩; conv => whnf) | fail)
    repeat (first | (refine ⟨⟨by decide⟩, ?_⟩; conv => whnf) | (refine ⟨⟨by unfold inI64; decide⟩, ?_⟩; conv => whnf))
    refine ⟨rfl, ?_⟩
    conv => whnf
    repeat (first | ((with_reducible first | apply ga | apply gb | apply gc | apply gd | apply ge | apply gf | apply gg | apply gh | apply gi | apply gj); conv => whnf) | (refine ⟨⟨rfl, rfl, nle rfl, nle rfl⟩, ?_⟩; conv => whnf) | fail)
    exact done_tup [i64 (lst 2), i64 (mst 2)] [] rfl ⟨VLe.int (by decide), VLe.int (by decide), trivial⟩
  | 3, h => by
    refine PureCall.run tab_ok mixed (by kernel_rfl) Tryd.func43 rfl rfl rfl ?_
    conv => whnf
    repeat (first | ((with_reducible first | apply ga | apply gb | apply gc | apply gd | apply ge | apply gf | apply gg | apply gh | apply gi | apply gj); conv => whnf) | (refine ⟨⟨rfl, rfl, nle rfl, nle rfl⟩, ?_⟩; conv => whnf) | fail)
    repeat (first | ((with_reducible first | apply ga | apply gb | apply gc | apply gd | apply ge | apply gf | apply gg | apply gh | apply gi | apply gj); conv => whnf) | (refine ⟨⟨rfl, rfl, nle rfl, nle rfl⟩, ?_⟩; conv => whnf) | (refine ⟨fun _ => ?_, fun h => absurd h (by decide +kernel)⟩; conv => whnf) | (refine ⟨fun h => absurd h (by decide +kernel), fun _ => ?_⟩; conv => whnf) | fail)
    refine ⟨_, [], ⟨_, (f45 3 h), ⟨.same, trivial⟩, .inl rfl⟩, ?_⟩
    conv => whnf
    repeat (first | ((with_reducible first | apply ga | apply gb | apply gc | apply gd | apply ge | apply gf | apply gg | apply gh | apply gi | apply gj); conv => whnf) | (refine ⟨⟨rfl, rfl, nle rfl, nle rfl⟩, ?_⟩; conv => whnf) | fail)
    repeat (first | (refine ⟨⟨by decide⟩, ?_⟩; conv => whnf) | (refine ⟨⟨by unfold inI64; decide⟩, ?_⟩; conv => whnf))
    refine ⟨rfl, ?_⟩
    conv => whnf
    repeat (first | ((with_reducible first | apply ga | apply gb | apply gc | apply gd | apply ge | apply gf | apply gg | apply gh | apply gi | apply gj); conv => whnf) | (refine ⟨⟨rfl, rfl, nle rfl, nle rfl⟩, ?_⟩; conv => whnf) | fail)
    exact done_tup [i64 (lst 3), i64 (mst 3)] [] rfl ⟨VLe.int (by decide), VLe.int (by decide), trivial⟩
  | 4, h => by
    refine PureCall.run tab_ok mixed (by kernel_rfl) Tryd.func43 rfl rfl rfl ?_
    conv => whnf
    repeat (first | ((with_reducible first | apply ga | apply gb | apply gc | apply gd | apply ge | apply gf | apply gg | apply gh | apply gi | apply gj); conv => whnf) | (refine ⟨⟨rfl, rfl, nle rfl, nle rfl⟩, ?_⟩; conv => whnf) | fail)
    repeat (first | ((with_reducible first | apply ga | apply gb | apply gc | apply gd | apply ge | apply gf | apply gg | apply gh | apply gi | apply gj); conv => whnf) | (refine ⟨⟨rfl, rfl, nle rfl, nle rfl⟩, ?_⟩; conv => whnf) | (refine ⟨fun _ => ?_, fun h => absurd h (by decide +kernel)⟩; conv => whnf) | (refine ⟨fun h => absurd h (by decide +kernel), fun _ => ?_⟩; conv => whnf) | fail)
    refine ⟨_, [], ⟨_, (f45 4 h), ⟨.same, trivial⟩, .inl rfl⟩, ?_⟩
    conv => whnf
    repeat (first | ((with_reducible first | apply ga | apply gb | apply gc | apply gd | apply ge | apply gf | apply gg | apply gh | apply gi | apply gj); conv => whnf) | (refine ⟨⟨rfl, rfl, nle rfl, nle rfl⟩, ?_⟩; conv => whnf) | fail)
    repeat (first | (refine ⟨⟨by decide⟩, ?_⟩; conv => whnf) | (refine ⟨⟨by unfold inI64; decide⟩, ?_⟩; conv => whnf))
    refine ⟨rfl, ?_⟩
    conv => whnf
    repeat (first | ((with_reducible first | apply ga | apply gb | apply gc | apply gd | apply ge | apply gf | apply gg | apply gh | apply gi | apply gj); conv => whnf) | (refine ⟨⟨rfl, rfl, nle rfl, nle rfl⟩, ?_⟩; conv => whnf) | fail)
    exact done_tup [i64 (lst 4), i64 (mst 4)] [] rfl ⟨VLe.int (by decide), VLe.int (by decide), trivial⟩
  | k + 5, h => absurd h (by omega)
theorem f44 (c : Nat) : PureCall Tryd.prog 44 [u8 c] (bb (decide (0 < c) && decide (c ≤ 39))) := by
  refine PureCall.run tab_ok mixed (by kernel_rfl) Tryd.func44 rfl rfl rfl ?_
  conv => whnf
  repeat (first | ((with_reducible first | apply ga | apply gb | apply gc | apply gd | apply ge | apply gf | apply gg | apply gh | apply gi | apply gj); conv => whnf) | (refine ⟨⟨rfl, rfl, nle rfl, nle rfl⟩, ?_⟩; conv => whnf) | fail)
  repeat' (first | ((with_reducible first | apply ga | apply gb | apply gc | apply gd | apply ge | apply gf | apply gg | apply gh | apply gi | apply gj); conv => whnf) | (refine ⟨fun hc => ?_, fun hc => ?_⟩ <;> (conv => whnf)) | fail)
  all_goals (refine done_bool _ _ rfl rfl ?_; simp_all; try omega)
def opV (c : Nat) : AV := opG c (ent c).nm (decide (19 < c)) (ent c).k (bitN (ent c).k) (ent c).c
theorem kle : ∀ c : Nat, (ent c).k ≤ 4 := by
  have h : ∀ i : Nat, i < 39 → (ents.getD i e0).k ≤ 4 := by decide
  intro c
  by_cases hc : c - 1 < 39
  · exact h _ hc
  · unfold ent
    have hn : ents[c - 1]? = none := List.getElem?_eq_none (show 39 ≤ c - 1 by omega)
    rw [List.getD_eq_getElem?_getD, hn]
    decide
theorem ent_bd : ∀ c : Nat, (ent c).b ≤ 28672 ∧ (ent c).c ≤ 6 ∧ (ent c).nm.length ≤ 8 := by
  have h : ∀ i : Nat, i < 39 → (ents.getD i e0).b ≤ 28672 ∧ (ents.getD i e0).c ≤ 6 ∧ (ents.getD i e0).nm.length ≤ 8 := by decide
  intro c
  by_cases hc : c - 1 < 39
  · exact h _ hc
  · unfold ent
    have hn : ents[c - 1]? = none := List.getElem?_eq_none (show 39 ≤ c - 1 by omega)
    rw [List.getD_eq_getElem?_getD, hn]
    decide
theorem f32 (c : Nat) (h1 : 1 ≤ c) (h2 : c ≤ 39) : PureCall Tryd.prog 32 [u8 c] (tupV [opV c, i64 0]) := by
  have h44 := f44 c
  rw [decide_eq_true (show 0 < c by omega), decide_eq_true h2] at h44
  refine PureCall.run tab_ok mixed (by kernel_rfl) Tryd.func32 rfl rfl rfl ?_
  conv => whnf
  repeat (first | ((with_reducible first | apply ga | apply gb | apply gc | apply gd | apply ge | apply gf | apply gg | apply gh | apply gi | apply gj); conv => whnf) | (refine ⟨⟨rfl, rfl, nle rfl, nle rfl⟩, ?_⟩; conv => whnf) | fail)
  refine CallK.flat [] h44 ⟨.same, trivial⟩ rfl ?_
  conv => whnf
  repeat (first | ((with_reducible first | apply ga | apply gb | apply gc | apply gd | apply ge | apply gf | apply gg | apply gh | apply gi | apply gj); conv => whnf) | (refine ⟨⟨rfl, rfl, nle rfl, nle rfl⟩, ?_⟩; conv => whnf) | fail)
  repeat (first | ((with_reducible first | apply ga | apply gb | apply gc | apply gd | apply ge | apply gf | apply gg | apply gh | apply gi | apply gj); conv => whnf) | (refine ⟨⟨rfl, rfl, nle rfl, nle rfl⟩, ?_⟩; conv => whnf) | (refine ⟨fun _ => ?_, fun h => absurd h (by decide)⟩; conv => whnf) | (refine ⟨fun h => absurd h (by decide), fun _ => ?_⟩; conv => whnf) | fail)
  refine CallK.flat [] (f33 c h1 h2) ⟨.same, trivial⟩ rfl ?_
  conv => whnf
  repeat (first | ((with_reducible first | apply ga | apply gb | apply gc | apply gd | apply ge | apply gf | apply gg | apply gh | apply gi | apply gj); conv => whnf) | (refine ⟨⟨rfl, rfl, nle rfl, nle rfl⟩, ?_⟩; conv => whnf) | fail)
  refine ⟨_, [], ⟨_, (f45 (ent c).k (kle c)), ⟨.same, trivial⟩, .inl rfl⟩, ?_⟩
  conv => whnf
  repeat (first | ((with_reducible first | apply ga | apply gb | apply gc | apply gd | apply ge | apply gf | apply gg | apply gh | apply gi | apply gj); conv => whnf) | (refine ⟨⟨rfl, rfl, nle rfl, nle rfl⟩, ?_⟩; conv => whnf) | fail)
  refine ⟨rfl, ?_⟩
  conv => whnf
  repeat (first | ((with_reducible first | apply ga | apply gb | apply gc | apply gd | apply ge | apply gf | apply gg | apply gh | apply gi | apply gj); conv => whnf) | (refine ⟨⟨rfl, rfl, nle rfl, nle rfl⟩, ?_⟩; conv => whnf) | fail)
  exact done_tup [opV c, i64 0] [] rfl ⟨agg6 .same .same (VLe.bool (by rw [decide_eq_decide]; omega)) .same .same .same, .same, trivial⟩
theorem f20 (n : Int) : PureCall Tryd.prog 20 [i64 n] ((⟨1, [], n⟩ : Arg).av) := by
  refine PureCall.run tab_ok mixed (by kernel_rfl) Tryd.func20 rfl rfl rfl ?_
  conv => whnf
  repeat (first | ((with_reducible first | apply ga | apply gb | apply gc | apply gd | apply ge | apply gf | apply gg | apply gh | apply gi | apply gj); conv => whnf) | (refine ⟨⟨rfl, rfl, nle rfl, nle rfl⟩, ?_⟩; conv => whnf) | fail)
  exact ⟨[], agg3 .same .same .same⟩
theorem f22 (n : Int) : PureCall Tryd.prog 22 [i64 n] ((⟨1, [], n⟩ : Arg).av) := by
  refine PureCall.run tab_ok mixed (by kernel_rfl) Tryd.func22 rfl rfl rfl ?_
  conv => whnf
  repeat (first | ((with_reducible first | apply ga | apply gb | apply gc | apply gd | apply ge | apply gf | apply gg | apply gh | apply gi | apply gj); conv => whnf) | (refine ⟨⟨rfl, rfl, nle rfl, nle rfl⟩, ?_⟩; conv => whnf) | fail)
  exact ⟨[], agg3 .same .same .same⟩
end Go.Proofs.YtolgdbekdkldjaaDoor

namespace Go.Proofs.YtolgdbekdkldjaaDoor
open Go Go.AM
attribute [local irreducible] AWP CallK PureCall SubS HeapCall
def findN (w c : Nat) : Nat → Nat
  | 0 => c
  | n + 1 => bif fits (ent c) w then c else findN w (c + 1) n
theorem findN_ext (w : Nat) : findN w 20 19 = findE w (ents.drop 19) 20 := rfl
theorem findN_bas (w : Nat) : findN w 1 18 = findE w (ents.take 19) 1 := rfl
theorem fits_of {e : Ent} {w : Nat} (h1 : (lst e.k : Int) ≤ (w : Int) - e.b) (h2 : (w : Int) - e.b ≤ mst e.k) : fits e w = true := by
  unfold fits; rw [Bool.and_eq_true, Nat.ble_eq, Nat.ble_eq]; omega
theorem fits_not {e : Ent} {w : Nat} (h : ¬ ((lst e.k : Int) ≤ (w : Int) - e.b ∧ (w : Int) - e.b ≤ mst e.k)) : fits e w = false := by
  rw [← Bool.not_eq_true]
  intro hf
  unfold fits at hf
  rw [Bool.and_eq_true, Nat.ble_eq, Nat.ble_eq] at hf
  exact h (by omega)
theorem wu8 {n : Int} (h : 0 ≤ n) (h' : n ≤ 255) : IntKind.u8.wrap n = n := by
  simp only [IntKind.wrap, IntKind.bits, IntKind.signed, Bool.false_and, Bool.false_eq_true, if_false]
  omega
theorem f31 (w a b : Nat) (hw : w < 32768) (h1 : 1 ≤ a) (h2 : a ≤ b) (h3 : b ≤ 39) : PureCall Tryd.prog 31 [i64 w, u8 a, u8 b] (u8 (findN w a (b - a))) := by
  refine PureCall.run tab_ok mixed (by kernel_rfl) Tryd.func31 rfl rfl rfl ?_
  conv => whnf
  repeat (first | ((with_reducible first | apply ga | apply gb | apply gc | apply gd | apply ge | apply gf | apply gg | apply gh | apply gi | apply gj); conv => whnf) | (refine ⟨⟨rfl, rfl, nle rfl, nle rfl⟩, ?_⟩; conv => whnf) | fail)
  refine ex_loop tab_ok mixed (fun c : Nat => a ≤ c ∧ c ≤ b ∧ findN w c (b - c) = findN w a (b - a)) (fun c => mkSt 41 [(0, i64 w), (2, u8 b), (7, u8 c)] []) (fun c => b - c) a ⟨Nat.le_refl _, h2, rfl⟩ (SubS.mk [] rfl ⟨⟨_, rfl, .same⟩, ⟨_, rfl, .same⟩, ⟨_, rfl, .same⟩, trivial⟩ trivial) ?_
  rintro c ⟨hc1, hc2, hI⟩
  conv => whnf
  repeat (first | ((with_reducible first | apply ga | apply gb | apply gc | apply gd | apply ge | apply gf | apply gg | apply gh | apply gi | apply gj); conv => whnf) | (refine ⟨⟨rfl, rfl, nle rfl, nle rfl⟩, ?_⟩; conv => whnf) | fail)
  refine ⟨fun hc => ?_, fun hc => ?_⟩ <;> replace hc := nm hc <;> (try rw [Int.toNat_zero] at hc) <;> (try rw [Int.toNat_one] at hc)
  · have hcb := ent_bd c
    have hst : findN w c (b - c) = bif fits (ent c) w then c else findN w (c + 1) (b - (c + 1)) := by
      rw [show b - c = (b - (c + 1)) + 1 by omega]; rfl
    rw [hst] at hI
    conv => whnf
    repeat (first | ((with_reducible first | apply ga | apply gb | apply gc | apply gd | apply ge | apply gf | apply gg | apply gh | apply gi | apply gj); conv => whnf) | (refine ⟨⟨rfl, rfl, nle rfl, nle rfl⟩, ?_⟩; conv => whnf) | fail)
    refine CallK.flat [] (f33 c (by omega) (by omega)) ⟨.same, trivial⟩ rfl ?_
    conv => whnf
    repeat (first | ((with_reducible first | apply ga | apply gb | apply gc | apply gd | apply ge | apply gf | apply gg | apply gh | apply gi | apply gj); conv => whnf) | (refine ⟨⟨rfl, rfl, nle rfl, nle rfl⟩, ?_⟩; conv => whnf) | fail)
    refine CallK.flat [] (f43 0 [] false 0 0 (ent c).k (kle c)) ⟨agg6 .same .same .same .same .same .same, trivial⟩ rfl ?_
    conv => whnf
    repeat (first | ((with_reducible first | apply ga | apply gb | apply gc | apply gd | apply ge | apply gf | apply gg | apply gh | apply gi | apply gj); conv => whnf) | (refine ⟨⟨rfl, rfl, nle rfl, nle rfl⟩, ?_⟩; conv => whnf) | fail)
    refine ⟨⟨by unfold inI64; omega⟩, ?_⟩
    conv => whnf
    repeat (first | ((with_reducible first | apply ga | apply gb | apply gc | apply gd | apply ge | apply gf | apply gg | apply gh | apply gi | apply gj); conv => whnf) | (refine ⟨⟨rfl, rfl, nle rfl, nle rfl⟩, ?_⟩; conv => whnf) | fail)
    refine ⟨fun ha => ?_, fun ha => ?_⟩ <;> replace ha := nm ha <;> (try rw [Int.toNat_zero] at ha) <;> (try rw [Int.toNat_one] at ha)
    · conv => whnf
      repeat (first | ((with_reducible first | apply ga | apply gb | apply gc | apply gd | apply ge | apply gf | apply gg | apply gh | apply gi | apply gj); conv => whnf) | (refine ⟨⟨rfl, rfl, nle rfl, nle rfl⟩, ?_⟩; conv => whnf) | fail)
      refine ⟨fun hb => ?_, fun hb => ?_⟩ <;> replace hb := nm hb <;> (try rw [Int.toNat_zero] at hb) <;> (try rw [Int.toNat_one] at hb)
      · rw [fits_of ha hb, cond_true] at hI
        conv => whnf
        repeat (first | ((with_reducible first | apply ga | apply gb | apply gc | apply gd | apply ge | apply gf | apply gg | apply gh | apply gi | apply gj); conv => whnf) | (refine ⟨⟨rfl, rfl, nle rfl, nle rfl⟩, ?_⟩; conv => whnf) | fail)
        rw [← hI]
        exact ⟨[], .same⟩
      · rw [fits_not (by omega), cond_false] at hI
        conv => whnf
        repeat (first | ((with_reducible first | apply ga | apply gb | apply gc | apply gd | apply ge | apply gf | apply gg | apply gh | apply gi | apply gj); conv => whnf) | (refine ⟨⟨rfl, rfl, nle rfl, nle rfl⟩, ?_⟩; conv => whnf) | fail)
        refine ⟨c + 1, ⟨by omega, by omega, hI⟩, SubS.mk [] rfl ⟨⟨_, rfl, .same⟩, ⟨_, rfl, .same⟩, ⟨_, rfl, VLe.int ?_⟩, trivial⟩ trivial, by omega⟩
        rw [wu8 (by omega) (by omega)]; omega
    · rw [fits_not (by omega), cond_false] at hI
      conv => whnf
      repeat (first | ((with_reducible first | apply ga | apply gb | apply gc | apply gd | apply ge | apply gf | apply gg | apply gh | apply gi | apply gj); conv => whnf) | (refine ⟨⟨rfl, rfl, nle rfl, nle rfl⟩, ?_⟩; conv => whnf) | fail)
      refine ⟨c + 1, ⟨by omega, by omega, hI⟩, SubS.mk [] rfl ⟨⟨_, rfl, .same⟩, ⟨_, rfl, .same⟩, ⟨_, rfl, VLe.int ?_⟩, trivial⟩ trivial, by omega⟩
      rw [wu8 (by omega) (by omega)]; omega
  · obtain rfl : c = b := by omega
    conv => whnf
    repeat (first | ((with_reducible first | apply ga | apply gb | apply gc | apply gd | apply ge | apply gf | apply gg | apply gh | apply gi | apply gj); conv => whnf) | (refine ⟨⟨rfl, rfl, nle rfl, nle rfl⟩, ?_⟩; conv => whnf) | fail)
    rw [Nat.sub_self] at hI
    rw [← hI]
    exact ⟨[], .same⟩
def decT (w : Nat) (x : Bool) : AV := tupV [opV (decN w x), i64 ((w : Int) - (ent (decN w x)).b), i64 0]
theorem f19 (w : Nat) (x : Bool) (hw : w < 32768) : PureCall Tryd.prog 19 [.pv (.int .u16 w), bb x] (decT w x) := by
  obtain ⟨_, r1, r2, r3⟩ := ref_dec (w := w) x hw
  have key : ∀ c : Nat, c = decN w x → PureCall Tryd.prog 32 [u8 c] (tupV [opV (decN w x), i64 0]) ∧ PureCall Tryd.prog 33 [u8 c] (entV (ent (decN w x))) := by
    rintro c rfl
    exact ⟨f32 _ r1 r2, f33 _ r1 r2⟩
  have hb := ent_bd (decN w x)
  refine PureCall.run tab_ok mixed (by kernel_rfl) Tryd.func19 rfl rfl rfl ?_
  conv => whnf
  repeat (first | ((with_reducible first | apply ga | apply gb | apply gc | apply gd | apply ge | apply gf | apply gg | apply gh | apply gi | apply gj); conv => whnf) | (refine ⟨⟨rfl, rfl, nle rfl, nle rfl⟩, ?_⟩; conv => whnf) | fail)
  refine ⟨fun h0 => ?_, fun h0 => ?_⟩ <;> replace h0 := nm h0 <;> (try rw [Int.toNat_zero] at h0) <;> (try rw [Int.toNat_one] at h0)
  · exfalso; omega
  · conv => whnf
    repeat (first | ((with_reducible first | apply ga | apply gb | apply gc | apply gd | apply ge | apply gf | apply gg | apply gh | apply gi | apply gj); conv => whnf) | (refine ⟨⟨rfl, rfl, nle rfl, nle rfl⟩, ?_⟩; conv => whnf) | fail)
    refine ⟨fun hx => ?_, fun hx => ?_⟩ <;> replace hx := nm hx <;> (try rw [Int.toNat_zero] at hx) <;> (try rw [Int.toNat_one] at hx)
    · subst hx
      refine CallK.flat [] (f31 w 20 39 hw (by omega) (by omega) (by omega)) ⟨VLe.int (wi64 (by omega) (by omega)),.same,.same, trivial⟩ rfl ?_
      conv => whnf
      repeat (first | ((with_reducible first | apply ga | apply gb | apply gc | apply gd | apply ge | apply gf | apply gg | apply gh | apply gi | apply gj); conv => whnf) | (refine ⟨⟨rfl, rfl, nle rfl, nle rfl⟩, ?_⟩; conv => whnf) | fail)
      obtain ⟨k1, k2⟩ := key _ (rfl)
      refine CallK.flat [] k1 ⟨.same, trivial⟩ rfl ?_
      conv => whnf
      repeat (first | ((with_reducible first | apply ga | apply gb | apply gc | apply gd | apply ge | apply gf | apply gg | apply gh | apply gi | apply gj); conv => whnf) | (refine ⟨⟨rfl, rfl, nle rfl, nle rfl⟩, ?_⟩; conv => whnf) | fail)
      refine ⟨_, [], ⟨_, k2, ⟨.same, trivial⟩, .inl rfl⟩, ?_⟩
      conv => whnf
      repeat (first | ((with_reducible first | apply ga | apply gb | apply gc | apply gd | apply ge | apply gf | apply gg | apply gh | apply gi | apply gj); conv => whnf) | (refine ⟨⟨rfl, rfl, nle rfl, nle rfl⟩, ?_⟩; conv => whnf) | fail)
      refine ⟨⟨by rw [wi64 (by omega) (by omega)]; unfold inI64; omega⟩, ?_⟩
      conv => whnf
      repeat (first | ((with_reducible first | apply ga | apply gb | apply gc | apply gd | apply ge | apply gf | apply gg | apply gh | apply gi | apply gj); conv => whnf) | (refine ⟨⟨rfl, rfl, nle rfl, nle rfl⟩, ?_⟩; conv => whnf) | fail)
      refine ⟨rfl, ?_⟩
      conv => whnf
      repeat (first | ((with_reducible first | apply ga | apply gb | apply gc | apply gd | apply ge | apply gf | apply gg | apply gh | apply gi | apply gj); conv => whnf) | (refine ⟨⟨rfl, rfl, nle rfl, nle rfl⟩, ?_⟩; conv => whnf) | fail)
      exact done_tup [opV (decN w _), i64 ((w : Int) - (ent (decN w _)).b), i64 0] [] rfl ⟨agg6 .same .same .same .same .same .same, VLe.int (by rw [wi64 (by omega) (by omega)]), .same, trivial⟩
    · subst hx
      conv => whnf
      repeat (first | ((with_reducible first | apply ga | apply gb | apply gc | apply gd | apply ge | apply gf | apply gg | apply gh | apply gi | apply gj); conv => whnf) | (refine ⟨⟨rfl, rfl, nle rfl, nle rfl⟩, ?_⟩; conv => whnf) | fail)
      refine ⟨fun h3 => ?_, fun h3 => ?_⟩ <;> replace h3 := nm h3 <;> (try rw [Int.toNat_zero] at h3) <;> (try rw [Int.toNat_one] at h3)
      · obtain rfl : w = 3 := by omega
        conv => whnf
        repeat (first | ((with_reducible first | apply ga | apply gb | apply gc | apply gd | apply ge | apply gf | apply gg | apply gh | apply gi | apply gj); conv => whnf) | (refine ⟨⟨rfl, rfl, nle rfl, nle rfl⟩, ?_⟩; conv => whnf) | fail)
        repeat (first | ((with_reducible first | apply ga | apply gb | apply gc | apply gd | apply ge | apply gf | apply gg | apply gh | apply gi | apply gj); conv => whnf) | (refine ⟨⟨rfl, rfl, nle rfl, nle rfl⟩, ?_⟩; conv => whnf) | (refine ⟨fun _ => ?_, fun h => absurd h (by decide +kernel)⟩; conv => whnf) | (refine ⟨fun h => absurd h (by decide +kernel), fun _ => ?_⟩; conv => whnf) | fail)
        refine ⟨⟨by decide, by decide, by decide, by decide⟩, ?_⟩
        conv => whnf
        repeat (first | ((with_reducible first | apply ga | apply gb | apply gc | apply gd | apply ge | apply gf | apply gg | apply gh | apply gi | apply gj); conv => whnf) | (refine ⟨⟨rfl, rfl, nle rfl, nle rfl⟩, ?_⟩; conv => whnf) | fail)
        obtain ⟨k1, k2⟩ := key 4 (by decide)
        refine CallK.flat [] k1 ⟨.same, trivial⟩ rfl ?_
        conv => whnf
        repeat (first | ((with_reducible first | apply ga | apply gb | apply gc | apply gd | apply ge | apply gf | apply gg | apply gh | apply gi | apply gj); conv => whnf) | (refine ⟨⟨rfl, rfl, nle rfl, nle rfl⟩, ?_⟩; conv => whnf) | fail)
        refine ⟨_, [], ⟨_, k2, ⟨.same, trivial⟩, .inl rfl⟩, ?_⟩
        conv => whnf
        repeat (first | ((with_reducible first | apply ga | apply gb | apply gc | apply gd | apply ge | apply gf | apply gg | apply gh | apply gi | apply gj); conv => whnf) | (refine ⟨⟨rfl, rfl, nle rfl, nle rfl⟩, ?_⟩; conv => whnf) | fail)
        refine ⟨⟨by rw [wi64 (by omega) (by omega)]; unfold inI64; omega⟩, ?_⟩
        conv => whnf
        repeat (first | ((with_reducible first | apply ga | apply gb | apply gc | apply gd | apply ge | apply gf | apply gg | apply gh | apply gi | apply gj); conv => whnf) | (refine ⟨⟨rfl, rfl, nle rfl, nle rfl⟩, ?_⟩; conv => whnf) | fail)
        refine ⟨rfl, ?_⟩
        conv => whnf
        repeat (first | ((with_reducible first | apply ga | apply gb | apply gc | apply gd | apply ge | apply gf | apply gg | apply gh | apply gi | apply gj); conv => whnf) | (refine ⟨⟨rfl, rfl, nle rfl, nle rfl⟩, ?_⟩; conv => whnf) | fail)
        exact done_tup [opV (decN 3 _), i64 (((3 : Nat) : Int) - (ent (decN 3 _)).b), i64 0] [] rfl ⟨agg6 .same .same .same .same .same .same, VLe.int (by rw [wi64 (by omega) (by omega)]), .same, trivial⟩
      · conv => whnf
        repeat (first | ((with_reducible first | apply ga | apply gb | apply gc | apply gd | apply ge | apply gf | apply gg | apply gh | apply gi | apply gj); conv => whnf) | (refine ⟨⟨rfl, rfl, nle rfl, nle rfl⟩, ?_⟩; conv => whnf) | fail)
        refine ⟨fun h4 => ?_, fun h4 => ?_⟩ <;> replace h4 := nm h4 <;> (try rw [Int.toNat_zero] at h4) <;> (try rw [Int.toNat_one] at h4)
        · obtain rfl : w = 4 := by omega
          conv => whnf
          repeat (first | ((with_reducible first | apply ga | apply gb | apply gc | apply gd | apply ge | apply gf | apply gg | apply gh | apply gi | apply gj); conv => whnf) | (refine ⟨⟨rfl, rfl, nle rfl, nle rfl⟩, ?_⟩; conv => whnf) | fail)
          repeat (first | ((with_reducible first | apply ga | apply gb | apply gc | apply gd | apply ge | apply gf | apply gg | apply gh | apply gi | apply gj); conv => whnf) | (refine ⟨⟨rfl, rfl, nle rfl, nle rfl⟩, ?_⟩; conv => whnf) | (refine ⟨fun _ => ?_, fun h => absurd h (by decide +kernel)⟩; conv => whnf) | (refine ⟨fun h => absurd h (by decide +kernel), fun _ => ?_⟩; conv => whnf) | fail)
          refine ⟨⟨by decide, by decide, by decide, by decide⟩, ?_⟩
          conv => whnf
          repeat (first | ((with_reducible first | apply ga | apply gb | apply gc | apply gd | apply ge | apply gf | apply gg | apply gh | apply gi | apply gj); conv => whnf) | (refine ⟨⟨rfl, rfl, nle rfl, nle rfl⟩, ?_⟩; conv => whnf) | fail)
          obtain ⟨k1, k2⟩ := key 3 (by decide)
          refine CallK.flat [] k1 ⟨.same, trivial⟩ rfl ?_
          conv => whnf
          repeat (first | ((with_reducible first | apply ga | apply gb | apply gc | apply gd | apply ge | apply gf | apply gg | apply gh | apply gi | apply gj); conv => whnf) | (refine ⟨⟨rfl, rfl, nle rfl, nle rfl⟩, ?_⟩; conv => whnf) | fail)
          refine ⟨_, [], ⟨_, k2, ⟨.same, trivial⟩, .inl rfl⟩, ?_⟩
          conv => whnf
          repeat (first | ((with_reducible first | apply ga | apply gb | apply gc | apply gd | apply ge | apply gf | apply gg | apply gh | apply gi | apply gj); conv => whnf) | (refine ⟨⟨rfl, rfl, nle rfl, nle rfl⟩, ?_⟩; conv => whnf) | fail)
          refine ⟨⟨by rw [wi64 (by omega) (by omega)]; unfold inI64; omega⟩, ?_⟩
          conv => whnf
          repeat (first | ((with_reducible first | apply ga | apply gb | apply gc | apply gd | apply ge | apply gf | apply gg | apply gh | apply gi | apply gj); conv => whnf) | (refine ⟨⟨rfl, rfl, nle rfl, nle rfl⟩, ?_⟩; conv => whnf) | fail)
          refine ⟨rfl, ?_⟩
          conv => whnf
          repeat (first | ((with_reducible first | apply ga | apply gb | apply gc | apply gd | apply ge | apply gf | apply gg | apply gh | apply gi | apply gj); conv => whnf) | (refine ⟨⟨rfl, rfl, nle rfl, nle rfl⟩, ?_⟩; conv => whnf) | fail)
          exact done_tup [opV (decN 4 _), i64 (((4 : Nat) : Int) - (ent (decN 4 _)).b), i64 0] [] rfl ⟨agg6 .same .same .same .same .same .same, VLe.int (by rw [wi64 (by omega) (by omega)]), .same, trivial⟩
        · conv => whnf
          repeat (first | ((with_reducible first | apply ga | apply gb | apply gc | apply gd | apply ge | apply gf | apply gg | apply gh | apply gi | apply gj); conv => whnf) | (refine ⟨⟨rfl, rfl, nle rfl, nle rfl⟩, ?_⟩; conv => whnf) | fail)
          refine ⟨fun h6 => ?_, fun h6 => ?_⟩ <;> replace h6 := nm h6 <;> (try rw [Int.toNat_zero] at h6) <;> (try rw [Int.toNat_one] at h6)
          · obtain rfl : w = 6 := by omega
            conv => whnf
            repeat (first | ((with_reducible first | apply ga | apply gb | apply gc | apply gd | apply ge | apply gf | apply gg | apply gh | apply gi | apply gj); conv => whnf) | (refine ⟨⟨rfl, rfl, nle rfl, nle rfl⟩, ?_⟩; conv => whnf) | fail)
            repeat (first | ((with_reducible first | apply ga | apply gb | apply gc | apply gd | apply ge | apply gf | apply gg | apply gh | apply gi | apply gj); conv => whnf) | (refine ⟨⟨rfl, rfl, nle rfl, nle rfl⟩, ?_⟩; conv => whnf) | (refine ⟨fun _ => ?_, fun h => absurd h (by decide +kernel)⟩; conv => whnf) | (refine ⟨fun h => absurd h (by decide +kernel), fun _ => ?_⟩; conv => whnf) | fail)
            refine ⟨⟨by decide, by decide, by decide, by decide⟩, ?_⟩
            conv => whnf
            repeat (first | ((with_reducible first | apply ga | apply gb | apply gc | apply gd | apply ge | apply gf | apply gg | apply gh | apply gi | apply gj); conv => whnf) | (refine ⟨⟨rfl, rfl, nle rfl, nle rfl⟩, ?_⟩; conv => whnf) | fail)
            obtain ⟨k1, k2⟩ := key 2 (by decide)
            refine CallK.flat [] k1 ⟨.same, trivial⟩ rfl ?_
            conv => whnf
            repeat (first | ((with_reducible first | apply ga | apply gb | apply gc | apply gd | apply ge | apply gf | apply gg | apply gh | apply gi | apply gj); conv => whnf) | (refine ⟨⟨rfl, rfl, nle rfl, nle rfl⟩, ?_⟩; conv => whnf) | fail)
            refine ⟨_, [], ⟨_, k2, ⟨.same, trivial⟩, .inl rfl⟩, ?_⟩
            conv => whnf
            repeat (first | ((with_reducible first | apply ga | apply gb | apply gc | apply gd | apply ge | apply gf | apply gg | apply gh | apply gi | apply gj); conv => whnf) | (refine ⟨⟨rfl, rfl, nle rfl, nle rfl⟩, ?_⟩; conv => whnf) | fail)
            refine ⟨⟨by rw [wi64 (by omega) (by omega)]; unfold inI64; omega⟩, ?_⟩
            conv => whnf
            repeat (first | ((with_reducible first | apply ga | apply gb | apply gc | apply gd | apply ge | apply gf | apply gg | apply gh | apply gi | apply gj); conv => whnf) | (refine ⟨⟨rfl, rfl, nle rfl, nle rfl⟩, ?_⟩; conv => whnf) | fail)
            refine ⟨rfl, ?_⟩
            conv => whnf
            repeat (first | ((with_reducible first | apply ga | apply gb | apply gc | apply gd | apply ge | apply gf | apply gg | apply gh | apply gi | apply gj); conv => whnf) | (refine ⟨⟨rfl, rfl, nle rfl, nle rfl⟩, ?_⟩; conv => whnf) | fail)
            exact done_tup [opV (decN 6 _), i64 (((6 : Nat) : Int) - (ent (decN 6 _)).b), i64 0] [] rfl ⟨agg6 .same .same .same .same .same .same, VLe.int (by rw [wi64 (by omega) (by omega)]), .same, trivial⟩
          · conv => whnf
            repeat (first | ((with_reducible first | apply ga | apply gb | apply gc | apply gd | apply ge | apply gf | apply gg | apply gh | apply gi | apply gj); conv => whnf) | (refine ⟨⟨rfl, rfl, nle rfl, nle rfl⟩, ?_⟩; conv => whnf) | fail)
            refine ⟨fun h14 => ?_, fun h14 => ?_⟩ <;> replace h14 := nm h14 <;> (try rw [Int.toNat_zero] at h14) <;> (try rw [Int.toNat_one] at h14)
            · obtain rfl : w = 20495 := by omega
              conv => whnf
              repeat (first | ((with_reducible first | apply ga | apply gb | apply gc | apply gd | apply ge | apply gf | apply gg | apply gh | apply gi | apply gj); conv => whnf) | (refine ⟨⟨rfl, rfl, nle rfl, nle rfl⟩, ?_⟩; conv => whnf) | fail)
              obtain ⟨k1, k2⟩ := key 14 (by decide)
              refine CallK.flat [] k1 ⟨.same, trivial⟩ rfl ?_
              conv => whnf
              repeat (first | ((with_reducible first | apply ga | apply gb | apply gc | apply gd | apply ge | apply gf | apply gg | apply gh | apply gi | apply gj); conv => whnf) | (refine ⟨⟨rfl, rfl, nle rfl, nle rfl⟩, ?_⟩; conv => whnf) | fail)
              refine ⟨_, [], ⟨_, k2, ⟨.same, trivial⟩, .inl rfl⟩, ?_⟩
              conv => whnf
              repeat (first | ((with_reducible first | apply ga | apply gb | apply gc | apply gd | apply ge | apply gf | apply gg | apply gh | apply gi | apply gj); conv => whnf) | (refine ⟨⟨rfl, rfl, nle rfl, nle rfl⟩, ?_⟩; conv => whnf) | fail)
              refine ⟨⟨by rw [wi64 (by omega) (by omega)]; unfold inI64; omega⟩, ?_⟩
              conv => whnf
              repeat (first | ((with_reducible first | apply ga | apply gb | apply gc | apply gd | apply ge | apply gf | apply gg | apply gh | apply gi | apply gj); conv => whnf) | (refine ⟨⟨rfl, rfl, nle rfl, nle rfl⟩, ?_⟩; conv => whnf) | fail)
              refine ⟨rfl, ?_⟩
              conv => whnf
              repeat (first | ((with_reducible first | apply ga | apply gb | apply gc | apply gd | apply ge | apply gf | apply gg | apply gh | apply gi | apply gj); conv => whnf) | (refine ⟨⟨rfl, rfl, nle rfl, nle rfl⟩, ?_⟩; conv => whnf) | fail)
              exact done_tup [opV (decN 20495 _), i64 (((20495 : Nat) : Int) - (ent (decN 20495 _)).b), i64 0] [] rfl ⟨agg6 .same .same .same .same .same .same, VLe.int (by rw [wi64 (by omega) (by omega)]), .same, trivial⟩
            · have hd : findN w 1 (19 - 1) = decN w false := by
                unfold decN
                rw [nbeq, nbeq, nbeq, nbeq, decide_eq_false (by omega), decide_eq_false (by omega), decide_eq_false (by omega), decide_eq_false (by omega)]
                rfl
              conv => whnf
              repeat (first | ((with_reducible first | apply ga | apply gb | apply gc | apply gd | apply ge | apply gf | apply gg | apply gh | apply gi | apply gj); conv => whnf) | (refine ⟨⟨rfl, rfl, nle rfl, nle rfl⟩, ?_⟩; conv => whnf) | fail)
              refine CallK.flat [] (f31 w 1 19 hw (by omega) (by omega) (by omega)) ⟨VLe.int (wi64 (by omega) (by omega)),.same,.same, trivial⟩ rfl ?_
              conv => whnf
              repeat (first | ((with_reducible first | apply ga | apply gb | apply gc | apply gd | apply ge | apply gf | apply gg | apply gh | apply gi | apply gj); conv => whnf) | (refine ⟨⟨rfl, rfl, nle rfl, nle rfl⟩, ?_⟩; conv => whnf) | fail)
              obtain ⟨k1, k2⟩ := key _ (hd)
              refine CallK.flat [] k1 ⟨.same, trivial⟩ rfl ?_
              conv => whnf
              repeat (first | ((with_reducible first | apply ga | apply gb | apply gc | apply gd | apply ge | apply gf | apply gg | apply gh | apply gi | apply gj); conv => whnf) | (refine ⟨⟨rfl, rfl, nle rfl, nle rfl⟩, ?_⟩; conv => whnf) | fail)
              refine ⟨_, [], ⟨_, k2, ⟨.same, trivial⟩, .inl rfl⟩, ?_⟩
              conv => whnf
              repeat (first | ((with_reducible first | apply ga | apply gb | apply gc | apply gd | apply ge | apply gf | apply gg | apply gh | apply gi | apply gj); conv => whnf) | (refine ⟨⟨rfl, rfl, nle rfl, nle rfl⟩, ?_⟩; conv => whnf) | fail)
              refine ⟨⟨by rw [wi64 (by omega) (by omega)]; unfold inI64; omega⟩, ?_⟩
              conv => whnf
              repeat (first | ((with_reducible first | apply ga | apply gb | apply gc | apply gd | apply ge | apply gf | apply gg | apply gh | apply gi | apply gj); conv => whnf) | (refine ⟨⟨rfl, rfl, nle rfl, nle rfl⟩, ?_⟩; conv => whnf) | fail)
              refine ⟨rfl, ?_⟩
              conv => whnf
              repeat (first | ((with_reducible first | apply ga | apply gb | apply gc | apply gd | apply ge | apply gf | apply gg | apply gh | apply gi | apply gj); conv => whnf) | (refine ⟨⟨rfl, rfl, nle rfl, nle rfl⟩, ?_⟩; conv => whnf) | fail)
              exact done_tup [opV (decN w _), i64 ((w : Int) - (ent (decN w _)).b), i64 0] [] rfl ⟨agg6 .same .same .same .same .same .same, VLe.int (by rw [wi64 (by omega) (by omega)]), .same, trivial⟩
/-- The line of a word. -/
def oneL (w : Nat) (x : Bool) : Line := ⟨[], (ent (decN w x)).nm, if (ent (decN w x)).k = 0 then az else ⟨1, [], (w : Int) - (ent (decN w x)).b⟩⟩
end Go.Proofs.YtolgdbekdkldjaaDoor

namespace Go.Proofs.YtolgdbekdkldjaaDoor
open Go Go.AM
attribute [local irreducible] AWP CallK PureCall SubS HeapCall
def icell (n : Nat) (_ : Nat) : PV := .int .i64 n
def kcell (n : Nat) (_ : Nat) : PV := .int .u8 n
set_option maxRecDepth 100000 in
theorem f34 : PureCall Tryd.prog 34 [] (.pv (sqA 3 1 icell 0 (ents.map (·.b)))) := by
  refine PureCall.run tab_ok mixed (by kernel_rfl) Tryd.func34 rfl rfl rfl ?_
  conv => whnf
  repeat (first | ((with_reducible first | apply ga | apply gb | apply gc | apply gd | apply ge | apply gf | apply gg | apply gh | apply gi | apply gj); conv => whnf) | (refine ⟨⟨rfl, rfl, nle rfl, nle rfl⟩, ?_⟩; conv => whnf) | fail)
  refine ⟨⟨⟨rfl, rfl, rfl, nle rfl⟩, rfl, rfl, rfl, rfl, rfl, rfl, by decide⟩, ?_⟩
  conv => whnf
  repeat (first | ((with_reducible first | apply ga | apply gb | apply gc | apply gd | apply ge | apply gf | apply gg | apply gh | apply gi | apply gj); conv => whnf) | (refine ⟨⟨rfl, rfl, nle rfl, nle rfl⟩, ?_⟩; conv => whnf) | fail)
  refine ⟨[3], VLe.frzO (g := 1) rfl rfl (L := ents.map (·.b)) (CellsA.row (fun i j hi hj => ?_) rfl rfl rfl) rfl⟩
  match i, hi, j, hj with
  | 0, _, 0, _ => exact .same
  | 1, _, 0, _ => exact .same
  | 2, _, 0, _ => exact .same
  | 3, _, 0, _ => exact .same
  | 4, _, 0, _ => exact .same
  | 5, _, 0, _ => exact .same
  | 6, _, 0, _ => exact .same
  | 7, _, 0, _ => exact .same
  | 8, _, 0, _ => exact .same
  | 9, _, 0, _ => exact .same
  | 10, _, 0, _ => exact .same
  | 11, _, 0, _ => exact .same
  | 12, _, 0, _ => exact .same
  | 13, _, 0, _ => exact .same
  | 14, _, 0, _ => exact .same
  | 15, _, 0, _ => exact .same
  | 16, _, 0, _ => exact .same
  | 17, _, 0, _ => exact .same
  | 18, _, 0, _ => exact .same
  | 19, _, 0, _ => exact .same
  | 20, _, 0, _ => exact .same
  | 21, _, 0, _ => exact .same
  | 22, _, 0, _ => exact .same
  | 23, _, 0, _ => exact .same
  | 24, _, 0, _ => exact .same
  | 25, _, 0, _ => exact .same
  | 26, _, 0, _ => exact .same
  | 27, _, 0, _ => exact .same
  | 28, _, 0, _ => exact .same
  | 29, _, 0, _ => exact .same
  | 30, _, 0, _ => exact .same
  | 31, _, 0, _ => exact .same
  | 32, _, 0, _ => exact .same
  | 33, _, 0, _ => exact .same
  | 34, _, 0, _ => exact .same
  | 35, _, 0, _ => exact .same
  | 36, _, 0, _ => exact .same
  | 37, _, 0, _ => exact .same
  | 38, _, 0, _ => exact .same
  | k + 39, h, _, _ => exact absurd (show k + 39 < 39 from h) (by omega)
  | _, _, j + 1, h => exact absurd (show j + 1 < 1 from h) (by omega)
set_option maxRecDepth 100000 in
theorem f51 : PureCall Tryd.prog 51 [] (.pv (sqA 3 1 icell 0 (ents.map (·.c)))) := by
  refine PureCall.run tab_ok mixed (by kernel_rfl) Tryd.func51 rfl rfl rfl ?_
  conv => whnf
  repeat (first | ((with_reducible first | apply ga | apply gb | apply gc | apply gd | apply ge | apply gf | apply gg | apply gh | apply gi | apply gj); conv => whnf) | (refine ⟨⟨rfl, rfl, nle rfl, nle rfl⟩, ?_⟩; conv => whnf) | fail)
  refine ⟨⟨⟨rfl, rfl, rfl, nle rfl⟩, rfl, rfl, rfl, rfl, rfl, rfl, by decide⟩, ?_⟩
  conv => whnf
  repeat (first | ((with_reducible first | apply ga | apply gb | apply gc | apply gd | apply ge | apply gf | apply gg | apply gh | apply gi | apply gj); conv => whnf) | (refine ⟨⟨rfl, rfl, nle rfl, nle rfl⟩, ?_⟩; conv => whnf) | fail)
  refine ⟨[3], VLe.frzO (g := 1) rfl rfl (L := ents.map (·.c)) (CellsA.row (fun i j hi hj => ?_) rfl rfl rfl) rfl⟩
  match i, hi, j, hj with
  | 0, _, 0, _ => exact .same
  | 1, _, 0, _ => exact .same
  | 2, _, 0, _ => exact .same
  | 3, _, 0, _ => exact .same
  | 4, _, 0, _ => exact .same
  | 5, _, 0, _ => exact .same
  | 6, _, 0, _ => exact .same
  | 7, _, 0, _ => exact .same
  | 8, _, 0, _ => exact .same
  | 9, _, 0, _ => exact .same
  | 10, _, 0, _ => exact .same
  | 11, _, 0, _ => exact .same
  | 12, _, 0, _ => exact .same
  | 13, _, 0, _ => exact .same
  | 14, _, 0, _ => exact .same
  | 15, _, 0, _ => exact .same
  | 16, _, 0, _ => exact .same
  | 17, _, 0, _ => exact .same
  | 18, _, 0, _ => exact .same
  | 19, _, 0, _ => exact .same
  | 20, _, 0, _ => exact .same
  | 21, _, 0, _ => exact .same
  | 22, _, 0, _ => exact .same
  | 23, _, 0, _ => exact .same
  | 24, _, 0, _ => exact .same
  | 25, _, 0, _ => exact .same
  | 26, _, 0, _ => exact .same
  | 27, _, 0, _ => exact .same
  | 28, _, 0, _ => exact .same
  | 29, _, 0, _ => exact .same
  | 30, _, 0, _ => exact .same
  | 31, _, 0, _ => exact .same
  | 32, _, 0, _ => exact .same
  | 33, _, 0, _ => exact .same
  | 34, _, 0, _ => exact .same
  | 35, _, 0, _ => exact .same
  | 36, _, 0, _ => exact .same
  | 37, _, 0, _ => exact .same
  | 38, _, 0, _ => exact .same
  | k + 39, h, _, _ => exact absurd (show k + 39 < 39 from h) (by omega)
  | _, _, j + 1, h => exact absurd (show j + 1 < 1 from h) (by omega)
set_option maxRecDepth 100000 in
theorem f48 : PureCall Tryd.prog 48 [] (.pv (sqA 47 1 kcell 0 (ents.map (·.k)))) := by
  refine PureCall.run tab_ok mixed (by kernel_rfl) Tryd.func48 rfl rfl rfl ?_
  conv => whnf
  repeat (first | ((with_reducible first | apply ga | apply gb | apply gc | apply gd | apply ge | apply gf | apply gg | apply gh | apply gi | apply gj); conv => whnf) | (refine ⟨⟨rfl, rfl, nle rfl, nle rfl⟩, ?_⟩; conv => whnf) | fail)
  refine ⟨⟨⟨rfl, rfl, rfl, nle rfl⟩, rfl, rfl, rfl, rfl, rfl, rfl, by decide⟩, ?_⟩
  conv => whnf
  repeat (first | ((with_reducible first | apply ga | apply gb | apply gc | apply gd | apply ge | apply gf | apply gg | apply gh | apply gi | apply gj); conv => whnf) | (refine ⟨⟨rfl, rfl, nle rfl, nle rfl⟩, ?_⟩; conv => whnf) | fail)
  refine ⟨[3], VLe.frzO (g := 1) rfl rfl (L := ents.map (·.k)) (CellsA.row (fun i j hi hj => ?_) rfl rfl rfl) rfl⟩
  match i, hi, j, hj with
  | 0, _, 0, _ => exact .same
  | 1, _, 0, _ => exact .same
  | 2, _, 0, _ => exact .same
  | 3, _, 0, _ => exact .same
  | 4, _, 0, _ => exact .same
  | 5, _, 0, _ => exact .same
  | 6, _, 0, _ => exact .same
  | 7, _, 0, _ => exact .same
  | 8, _, 0, _ => exact .same
  | 9, _, 0, _ => exact .same
  | 10, _, 0, _ => exact .same
  | 11, _, 0, _ => exact .same
  | 12, _, 0, _ => exact .same
  | 13, _, 0, _ => exact .same
  | 14, _, 0, _ => exact .same
  | 15, _, 0, _ => exact .same
  | 16, _, 0, _ => exact .same
  | 17, _, 0, _ => exact .same
  | 18, _, 0, _ => exact .same
  | 19, _, 0, _ => exact .same
  | 20, _, 0, _ => exact .same
  | 21, _, 0, _ => exact .same
  | 22, _, 0, _ => exact .same
  | 23, _, 0, _ => exact .same
  | 24, _, 0, _ => exact .same
  | 25, _, 0, _ => exact .same
  | 26, _, 0, _ => exact .same
  | 27, _, 0, _ => exact .same
  | 28, _, 0, _ => exact .same
  | 29, _, 0, _ => exact .same
  | 30, _, 0, _ => exact .same
  | 31, _, 0, _ => exact .same
  | 32, _, 0, _ => exact .same
  | 33, _, 0, _ => exact .same
  | 34, _, 0, _ => exact .same
  | 35, _, 0, _ => exact .same
  | 36, _, 0, _ => exact .same
  | 37, _, 0, _ => exact .same
  | 38, _, 0, _ => exact .same
  | k + 39, h, _, _ => exact absurd (show k + 39 < 39 from h) (by omega)
  | _, _, j + 1, h => exact absurd (show j + 1 < 1 from h) (by omega)
set_option maxRecDepth 100000 in
theorem f49 : PureCall Tryd.prog 49 [] (.pv (sqA 9 1 scell [] (ents.map (·.nm)))) := by
  refine PureCall.run tab_ok mixed (by kernel_rfl) Tryd.func49 rfl rfl rfl ?_
  conv => whnf
  repeat (first | ((with_reducible first | apply ga | apply gb | apply gc | apply gd | apply ge | apply gf | apply gg | apply gh | apply gi | apply gj); conv => whnf) | (refine ⟨⟨rfl, rfl, nle rfl, nle rfl⟩, ?_⟩; conv => whnf) | fail)
  refine ⟨⟨⟨rfl, rfl, rfl, nle rfl⟩, rfl, rfl, rfl, rfl, rfl, rfl, by decide⟩, ?_⟩
  conv => whnf
  repeat (first | ((with_reducible first | apply ga | apply gb | apply gc | apply gd | apply ge | apply gf | apply gg | apply gh | apply gi | apply gj); conv => whnf) | (refine ⟨⟨rfl, rfl, nle rfl, nle rfl⟩, ?_⟩; conv => whnf) | fail)
  refine ⟨[3], VLe.frzO (g := 1) rfl rfl (L := ents.map (·.nm)) (CellsA.row (fun i j hi hj => ?_) rfl rfl rfl) rfl⟩
  match i, hi, j, hj with
  | 0, _, 0, _ => exact .same
  | 1, _, 0, _ => exact .same
  | 2, _, 0, _ => exact .same
  | 3, _, 0, _ => exact .same
  | 4, _, 0, _ => exact .same
  | 5, _, 0, _ => exact .same
  | 6, _, 0, _ => exact .same
  | 7, _, 0, _ => exact .same
  | 8, _, 0, _ => exact .same
  | 9, _, 0, _ => exact .same
  | 10, _, 0, _ => exact .same
  | 11, _, 0, _ => exact .same
  | 12, _, 0, _ => exact .same
  | 13, _, 0, _ => exact .same
  | 14, _, 0, _ => exact .same
  | 15, _, 0, _ => exact .same
  | 16, _, 0, _ => exact .same
  | 17, _, 0, _ => exact .same
  | 18, _, 0, _ => exact .same
  | 19, _, 0, _ => exact .same
  | 20, _, 0, _ => exact .same
  | 21, _, 0, _ => exact .same
  | 22, _, 0, _ => exact .same
  | 23, _, 0, _ => exact .same
  | 24, _, 0, _ => exact .same
  | 25, _, 0, _ => exact .same
  | 26, _, 0, _ => exact .same
  | 27, _, 0, _ => exact .same
  | 28, _, 0, _ => exact .same
  | 29, _, 0, _ => exact .same
  | 30, _, 0, _ => exact .same
  | 31, _, 0, _ => exact .same
  | 32, _, 0, _ => exact .same
  | 33, _, 0, _ => exact .same
  | 34, _, 0, _ => exact .same
  | 35, _, 0, _ => exact .same
  | 36, _, 0, _ => exact .same
  | 37, _, 0, _ => exact .same
  | 38, _, 0, _ => exact .same
  | k + 39, h, _, _ => exact absurd (show k + 39 < 39 from h) (by omega)
  | _, _, j + 1, h => exact absurd (show j + 1 < 1 from h) (by omega)
theorem f50 : ∀ k : Nat, k ≤ 4 → PureCall Tryd.prog 50 [u8 k] (i64 (bitN k))
  | 0, _ => by
    refine PureCall.run tab_ok mixed (by kernel_rfl) Tryd.func50 rfl rfl rfl ?_
    conv => whnf
    repeat (first | ((with_reducible first | apply ga | apply gb | apply gc | apply gd | apply ge | apply gf | apply gg | apply gh | apply gi | apply gj); conv => whnf) | (refine ⟨⟨rfl, rfl, nle rfl, nle rfl⟩, ?_⟩; conv => whnf) | fail)
    repeat (first | ((with_reducible first | apply ga | apply gb | apply gc | apply gd | apply ge | apply gf | apply gg | apply gh | apply gi | apply gj); conv => whnf) | (refine ⟨⟨rfl, rfl, nle rfl, nle rfl⟩, ?_⟩; conv => whnf) | (refine ⟨fun _ => ?_, fun h => absurd h (by decide +kernel)⟩; conv => whnf) | (refine ⟨fun h => absurd h (by decide +kernel), fun _ => ?_⟩; conv => whnf) | fail)
    exact ⟨[], .same⟩
  | 1, _ => by
    refine PureCall.run tab_ok mixed (by kernel_rfl) Tryd.func50 rfl rfl rfl ?_
    conv => whnf
    repeat (first | ((with_reducible first | apply ga | apply gb | apply gc | apply gd | apply ge | apply gf | apply gg | apply gh | apply gi | apply gj); conv => whnf) | (refine ⟨⟨rfl, rfl, nle rfl, nle rfl⟩, ?_⟩; conv => whnf) | fail)
    repeat (first | ((with_reducible first | apply ga | apply gb | apply gc | apply gd | apply ge | apply gf | apply gg | apply gh | apply gi | apply gj); conv => whnf) | (refine ⟨⟨rfl, rfl, nle rfl, nle rfl⟩, ?_⟩; conv => whnf) | (refine ⟨fun _ => ?_, fun h => absurd h (by decide +kernel)⟩; conv => whnf) | (refine ⟨fun h => absurd h (by decide +kernel), fun _ => ?_⟩; conv => whnf) | fail)
    exact ⟨[], .same⟩
  | 2, _ => by
    refine PureCall.run tab_ok mixed (by kernel_rfl) Tryd.func50 rfl rfl rfl ?_
    conv => whnf
    repeat (first | ((with_reducible first | apply ga | apply gb | apply gc | apply gd | apply ge | apply gf | apply gg | apply gh | apply gi | apply gj); conv => whnf) | (refine ⟨⟨rfl, rfl, nle rfl, nle rfl⟩, ?_⟩; conv => whnf) | fail)
    repeat (first | ((with_reducible first | apply ga | apply gb | apply gc | apply gd | apply ge | apply gf | apply gg | apply gh | apply gi | apply gj); conv => whnf) | (refine ⟨⟨rfl, rfl, nle rfl, nle rfl⟩, ?_⟩; conv => whnf) | (refine ⟨fun _ => ?_, fun h => absurd h (by decide +kernel)⟩; conv => whnf) | (refine ⟨fun h => absurd h (by decide +kernel), fun _ => ?_⟩; conv => whnf) | fail)
    exact ⟨[], .same⟩
  | 3, _ => by
    refine PureCall.run tab_ok mixed (by kernel_rfl) Tryd.func50 rfl rfl rfl ?_
    conv => whnf
    repeat (first | ((with_reducible first | apply ga | apply gb | apply gc | apply gd | apply ge | apply gf | apply gg | apply gh | apply gi | apply gj); conv => whnf) | (refine ⟨⟨rfl, rfl, nle rfl, nle rfl⟩, ?_⟩; conv => whnf) | fail)
    repeat (first | ((with_reducible first | apply ga | apply gb | apply gc | apply gd | apply ge | apply gf | apply gg | apply gh | apply gi | apply gj); conv => whnf) | (refine ⟨⟨rfl, rfl, nle rfl, nle rfl⟩, ?_⟩; conv => whnf) | (refine ⟨fun _ => ?_, fun h => absurd h (by decide +kernel)⟩; conv => whnf) | (refine ⟨fun h => absurd h (by decide +kernel), fun _ => ?_⟩; conv => whnf) | fail)
    exact ⟨[], .same⟩
  | 4, _ => by
    refine PureCall.run tab_ok mixed (by kernel_rfl) Tryd.func50 rfl rfl rfl ?_
    conv => whnf
    repeat (first | ((with_reducible first | apply ga | apply gb | apply gc | apply gd | apply ge | apply gf | apply gg | apply gh | apply gi | apply gj); conv => whnf) | (refine ⟨⟨rfl, rfl, nle rfl, nle rfl⟩, ?_⟩; conv => whnf) | fail)
    repeat (first | ((with_reducible first | apply ga | apply gb | apply gc | apply gd | apply ge | apply gf | apply gg | apply gh | apply gi | apply gj); conv => whnf) | (refine ⟨⟨rfl, rfl, nle rfl, nle rfl⟩, ?_⟩; conv => whnf) | (refine ⟨fun _ => ?_, fun h => absurd h (by decide +kernel)⟩; conv => whnf) | (refine ⟨fun h => absurd h (by decide +kernel), fun _ => ?_⟩; conv => whnf) | fail)
    exact ⟨[], .same⟩
  | k + 5, h => absurd h (by omega)
theorem f52 (a : Int) (b : List UInt8) (c : Bool) (d e : Int) : ∀ k : Nat, k ≤ 4 → PureCall Tryd.prog 52 [opG a b c k d e] (rngV k)
  | 0, h => by
    refine PureCall.run tab_ok mixed (by kernel_rfl) Tryd.func52 rfl rfl rfl ?_
    conv => whnf
    repeat (first | ((with_reducible first | apply ga | apply gb | apply gc | apply gd | apply ge | apply gf | apply gg | apply gh | apply gi | apply gj); conv => whnf) | (refine ⟨⟨rfl, rfl, nle rfl, nle rfl⟩, ?_⟩; conv => whnf) | fail)
    repeat (first | ((with_reducible first | apply ga | apply gb | apply gc | apply gd | apply ge | apply gf | apply gg | apply gh | apply gi | apply gj); conv => whnf) | (refine ⟨⟨rfl, rfl, nle rfl, nle rfl⟩, ?_⟩; conv => whnf) | (refine ⟨fun _ => ?_, fun h => absurd h (by decide +kernel)⟩; conv => whnf) | (refine ⟨fun h => absurd h (by decide +kernel), fun _ => ?_⟩; conv => whnf) | fail)
    exact done_tup [i64 (lst 0), i64 (mst 0)] [] rfl ⟨VLe.int (by decide), VLe.int (by decide), trivial⟩
  | 1, h => by
    refine PureCall.run tab_ok mixed (by kernel_rfl) Tryd.func52 rfl rfl rfl ?_
    conv => whnf
    repeat (first | ((with_reducible first | apply ga | apply gb | apply gc | apply gd | apply ge | apply gf | apply gg | apply gh | apply gi | apply gj); conv => whnf) | (refine ⟨⟨rfl, rfl, nle rfl, nle rfl⟩, ?_⟩; conv => whnf) | fail)
    repeat (first | ((with_reducible first | apply ga | apply gb | apply gc | apply gd | apply ge | apply gf | apply gg | apply gh | apply gi | apply gj); conv => whnf) | (refine ⟨⟨rfl, rfl, nle rfl, nle rfl⟩, ?_⟩; conv => whnf) | (refine ⟨fun _ => ?_, fun h => absurd h (by decide +kernel)⟩; conv => whnf) | (refine ⟨fun h => absurd h (by decide +kernel), fun _ => ?_⟩; conv => whnf) | fail)
    exact done_tup [i64 (lst 1), i64 (mst 1)] [] rfl ⟨VLe.int (by decide), VLe.int (by decide), trivial⟩
  | 2, h => by
    refine PureCall.run tab_ok mixed (by kernel_rfl) Tryd.func52 rfl rfl rfl ?_
    conv => whnf
    repeat (first | ((with_reducible first | apply ga | apply gb | apply gc | apply gd | apply ge | apply gf | apply gg | apply gh | apply gi | apply gj); conv => whnf) | (refine ⟨⟨rfl, rfl, nle rfl, nle rfl⟩, ?_⟩; conv => whnf) | fail)
    repeat (first | ((with_reducible first | apply ga | apply gb | apply gc | apply gd | apply ge | apply gf | apply gg | apply gh | apply gi | apply gj); conv => whnf) | (refine ⟨⟨rfl, rfl, nle rfl, nle rfl⟩, ?_⟩; conv => whnf) | (refine ⟨fun _ => ?_, fun h => absurd h (by decide +kernel)⟩; conv => whnf) | (refine ⟨fun h => absurd h (by decide +kernel), fun _ => ?_⟩; conv => whnf) | fail)
    exact done_tup [i64 (lst 2), i64 (mst 2)] [] rfl ⟨VLe.int (by decide), VLe.int (by decide), trivial⟩
  | 3, h => by
    refine PureCall.run tab_ok mixed (by kernel_rfl) Tryd.func52 rfl rfl rfl ?_
    conv => whnf
    repeat (first | ((with_reducible first | apply ga | apply gb | apply gc | apply gd | apply ge | apply gf | apply gg | apply gh | apply gi | apply gj); conv => whnf) | (refine ⟨⟨rfl, rfl, nle rfl, nle rfl⟩, ?_⟩; conv => whnf) | fail)
    repeat (first | ((with_reducible first | apply ga | apply gb | apply gc | apply gd | apply ge | apply gf | apply gg | apply gh | apply gi | apply gj); conv => whnf) | (refine ⟨⟨rfl, rfl, nle rfl, nle rfl⟩, ?_⟩; conv => whnf) | (refine ⟨fun _ => ?_, fun h => absurd h (by decide +kernel)⟩; conv => whnf) | (refine ⟨fun h => absurd h (by decide +kernel), fun _ => ?_⟩; conv => whnf) | fail)
    exact done_tup [i64 (lst 3), i64 (mst 3)] [] rfl ⟨VLe.int (by decide), VLe.int (by decide), trivial⟩
  | 4, h => by
    refine PureCall.run tab_ok mixed (by kernel_rfl) Tryd.func52 rfl rfl rfl ?_
    conv => whnf
    repeat (first | ((with_reducible first | apply ga | apply gb | apply gc | apply gd | apply ge | apply gf | apply gg | apply gh | apply gi | apply gj); conv => whnf) | (refine ⟨⟨rfl, rfl, nle rfl, nle rfl⟩, ?_⟩; conv => whnf) | fail)
    repeat (first | ((with_reducible first | apply ga | apply gb | apply gc | apply gd | apply ge | apply gf | apply gg | apply gh | apply gi | apply gj); conv => whnf) | (refine ⟨⟨rfl, rfl, nle rfl, nle rfl⟩, ?_⟩; conv => whnf) | (refine ⟨fun _ => ?_, fun h => absurd h (by decide +kernel)⟩; conv => whnf) | (refine ⟨fun h => absurd h (by decide +kernel), fun _ => ?_⟩; conv => whnf) | fail)
    exact done_tup [i64 (lst 4), i64 (mst 4)] [] rfl ⟨VLe.int (by decide), VLe.int (by decide), trivial⟩
  | k + 5, h => absurd h (by omega)
def TCs : List UInt8 := [84, 67]
def IXs : List UInt8 := [73, 78, 68, 69, 88]
def resI (nm : List UInt8) (k : Int) : Bool := ((nm == TCs) && ((k == 3) || (k == 4) || (k == 6))) || ((nm == IXs) && (k == 15))
theorem f53 (nm : List UInt8) (k : Int) : PureCall Tryd.prog 53 [st nm, i64 k] (bb (resI nm k)) := by
  refine PureCall.run tab_ok mixed (by kernel_rfl) Tryd.func53 rfl rfl rfl ?_
  conv => whnf
  repeat (first | ((with_reducible first | apply ga | apply gb | apply gc | apply gd | apply ge | apply gf | apply gg | apply gh | apply gi | apply gj); conv => whnf) | (refine ⟨⟨rfl, rfl, nle rfl, nle rfl⟩, ?_⟩; conv => whnf) | fail)
  repeat' (first | ((with_reducible first | apply ga | apply gb | apply gc | apply gd | apply ge | apply gf | apply gg | apply gh | apply gi | apply gj); conv => whnf) | (refine ⟨fun hc => ?_, fun hc => ?_⟩ <;> (conv => whnf)) | fail)
  all_goals (refine done_bool _ _ rfl rfl ?_; simp_all [resI, TCs, IXs]; try omega)
theorem nm_tc : ∀ c : Nat, 1 ≤ c → c ≤ 39 → ((ent c).nm == TCs) = decide (c = 1) ∧ ((ent c).nm == IXs) = decide (c = 13) := by
  have h : ∀ c : Nat, c < 40 → 1 ≤ c → ((ent c).nm == TCs) = decide (c = 1) ∧ ((ent c).nm == IXs) = decide (c = 13) := by decide
  intro c h1 h2
  exact h c (by omega) h1
theorem res_eq {c k : Nat} (h1 : 1 ≤ c) (h2 : c ≤ 39) : resI (ent c).nm k = resv c k := by
  obtain ⟨e1, e2⟩ := nm_tc c h1 h2
  unfold resI resv
  rw [e1, e2]
  simp only [nbeq]
  have hk : ∀ m : Nat, ((k : Int) == (m : Int)) = decide (k = m) := fun m => by
    rw [Bool.eq_iff_iff]; simp; omega
  have h3 := hk 3; have h4 := hk 4; have h6 := hk 6; have h15 := hk 15
  simp only [Int.cast_ofNat_Int] at h3 h4 h6 h15
  rw [h3, h4, h6, h15]
theorem getD_map {α β : Type} (f : α → β) (L : List α) (i : Nat) (d : α) (d' : β) (h : i < L.length) : (L.map f).getD i d' = f (L.getD i d) := by
  rw [List.getD_eq_getElem?_getD, List.getD_eq_getElem?_getD, List.getElem?_map, List.getElem?_eq_getElem h]; rfl
theorem VLe.eqp {H : Heap} {B : List Nat} {U : List (Nat × Nat)} {p q : PV} (h : p = q) : VLe H B U (.pv p) (.pv q) := h ▸ .same
theorem ent_at {i : Nat} : ents.getD i e0 = ent (i + 1) := rfl
theorem f35 (c : Nat) (h1 : 1 ≤ c) (h2 : c ≤ 39) : PureCall Tryd.prog 35 [u8 c] (tupV [opV c, i64 0]) := by
  obtain ⟨i, rfl⟩ : ∃ i, c = i + 1 := ⟨c - 1, by omega⟩
  have hl : ents.length = 39 := rfl
  have hi : IntKind.i64.wrap ((i + 1 : Nat) : Int) - 1 = (i : Int) := by rw [wi64 (by omega) (by omega)]; omega
  have hk : (((ents.map (fun x => x.k)).getD i 0 : Nat) : Int) = ((ent (i + 1)).k : Nat) := by rw [getD_map _ _ _ e0 _ (by omega)]; rfl
  have hc : (((ents.map (fun x => x.c)).getD i 0 : Nat) : Int) = ((ent (i + 1)).c : Nat) := by rw [getD_map _ _ _ e0 _ (by omega)]; rfl
  have hn : (ents.map (fun x => x.nm)).getD i [] = (ent (i + 1)).nm := by rw [getD_map _ _ _ e0 _ (by omega)]; rfl
  refine PureCall.run tab_ok mixed (by kernel_rfl) Tryd.func35 rfl rfl rfl ?_
  conv => whnf
  repeat (first | ((with_reducible first | apply ga | apply gb | apply gc | apply gd | apply ge | apply gf | apply gg | apply gh | apply gi | apply gj); conv => whnf) | (refine ⟨⟨rfl, rfl, nle rfl, nle rfl⟩, ?_⟩; conv => whnf) | fail)
  refine ⟨fun ha => ?_, fun ha => ?_⟩ <;> replace ha := nm ha <;> (try rw [Int.toNat_zero] at ha) <;> (try rw [Int.toNat_one] at ha)
  · conv => whnf
    repeat (first | ((with_reducible first | apply ga | apply gb | apply gc | apply gd | apply ge | apply gf | apply gg | apply gh | apply gi | apply gj); conv => whnf) | (refine ⟨⟨rfl, rfl, nle rfl, nle rfl⟩, ?_⟩; conv => whnf) | fail)
    refine ⟨fun hb => ?_, fun hb => ?_⟩ <;> replace hb := nm hb <;> (try rw [Int.toNat_zero] at hb) <;> (try rw [Int.toNat_one] at hb)
    · exfalso; omega
    · conv => whnf
      repeat (first | ((with_reducible first | apply ga | apply gb | apply gc | apply gd | apply ge | apply gf | apply gg | apply gh | apply gi | apply gj); conv => whnf) | (refine ⟨⟨rfl, rfl, nle rfl, nle rfl⟩, ?_⟩; conv => whnf) | fail)
      refine ⟨⟨by rw [hi]; unfold inI64; omega⟩, ?_⟩
      conv => whnf
      repeat (first | ((with_reducible first | apply ga | apply gb | apply gc | apply gd | apply ge | apply gf | apply gg | apply gh | apply gi | apply gj); conv => whnf) | (refine ⟨⟨rfl, rfl, nle rfl, nle rfl⟩, ?_⟩; conv => whnf) | fail)
      rw [hi]
      refine CallK.drop [] f48 trivial ?_
      conv => whnf
      repeat (first | ((with_reducible first | apply ga | apply gb | apply gc | apply gd | apply ge | apply gf | apply gg | apply gh | apply gi | apply gj); conv => whnf) | (refine ⟨⟨rfl, rfl, nle rfl, nle rfl⟩, ?_⟩; conv => whnf) | fail)
      refine ⟨⟨by omega, by rw [List.length_map]; omega, rfl⟩, ?_⟩
      conv => whnf
      repeat (first | ((with_reducible first | apply ga | apply gb | apply gc | apply gd | apply ge | apply gf | apply gg | apply gh | apply gi | apply gj); conv => whnf) | (refine ⟨⟨rfl, rfl, nle rfl, nle rfl⟩, ?_⟩; conv => whnf) | fail)
      refine ⟨⟨by decide⟩, ?_⟩
      conv => whnf
      repeat (first | ((with_reducible first | apply ga | apply gb | apply gc | apply gd | apply ge | apply gf | apply gg | apply gh | apply gi | apply gj); conv => whnf) | (refine ⟨⟨rfl, rfl, nle rfl, nle rfl⟩, ?_⟩; conv => whnf) | fail)
      refine ⟨_, [], ⟨_, f49, trivial, .inr rfl⟩, ?_⟩
      conv => whnf
      repeat (first | ((with_reducible first | apply ga | apply gb | apply gc | apply gd | apply ge | apply gf | apply gg | apply gh | apply gi | apply gj); conv => whnf) | (refine ⟨⟨rfl, rfl, nle rfl, nle rfl⟩, ?_⟩; conv => whnf) | fail)
      refine ⟨⟨by omega, by rw [List.length_map]; omega, rfl⟩, ?_⟩
      conv => whnf
      repeat (first | ((with_reducible first | apply ga | apply gb | apply gc | apply gd | apply ge | apply gf | apply gg | apply gh | apply gi | apply gj); conv => whnf) | (refine ⟨⟨rfl, rfl, nle rfl, nle rfl⟩, ?_⟩; conv => whnf) | fail)
      refine ⟨⟨by decide⟩, ?_⟩
      conv => whnf
      repeat (first | ((with_reducible first | apply ga | apply gb | apply gc | apply gd | apply ge | apply gf | apply gg | apply gh | apply gi | apply gj); conv => whnf) | (refine ⟨⟨rfl, rfl, nle rfl, nle rfl⟩, ?_⟩; conv => whnf) | fail)
      refine ⟨_, [], ⟨_, (f50 (ent (i + 1)).k (kle _)), ⟨VLe.int hk, trivial⟩, .inl rfl⟩, ?_⟩
      conv => whnf
      repeat (first | ((with_reducible first | apply ga | apply gb | apply gc | apply gd | apply ge | apply gf | apply gg | apply gh | apply gi | apply gj); conv => whnf) | (refine ⟨⟨rfl, rfl, nle rfl, nle rfl⟩, ?_⟩; conv => whnf) | fail)
      refine ⟨_, [], ⟨_, f51, trivial, .inr rfl⟩, ?_⟩
      conv => whnf
      repeat (first | ((with_reducible first | apply ga | apply gb | apply gc | apply gd | apply ge | apply gf | apply gg | apply gh | apply gi | apply gj); conv => whnf) | (refine ⟨⟨rfl, rfl, nle rfl, nle rfl⟩, ?_⟩; conv => whnf) | fail)
      refine ⟨⟨by omega, by rw [List.length_map]; omega, rfl⟩, ?_⟩
      conv => whnf
      repeat (first | ((with_reducible first | apply ga | apply gb | apply gc | apply gd | apply ge | apply gf | apply gg | apply gh | apply gi | apply gj); conv => whnf) | (refine ⟨⟨rfl, rfl, nle rfl, nle rfl⟩, ?_⟩; conv => whnf) | fail)
      refine ⟨⟨by decide⟩, ?_⟩
      conv => whnf
      repeat (first | ((with_reducible first | apply ga | apply gb | apply gc | apply gd | apply ge | apply gf | apply gg | apply gh | apply gi | apply gj); conv => whnf) | (refine ⟨⟨rfl, rfl, nle rfl, nle rfl⟩, ?_⟩; conv => whnf) | fail)
      refine ⟨rfl, ?_⟩
      conv => whnf
      repeat (first | ((with_reducible first | apply ga | apply gb | apply gc | apply gd | apply ge | apply gf | apply gg | apply gh | apply gi | apply gj); conv => whnf) | (refine ⟨⟨rfl, rfl, nle rfl, nle rfl⟩, ?_⟩; conv => whnf) | fail)
      exact done_tup [opV (i + 1), i64 0] [] rfl ⟨agg6 .same (VLe.eqp (congrArg PV.str hn)) (VLe.bool (by rw [decide_eq_decide]; omega)) (VLe.int hk) .same (VLe.int hc), .same, trivial⟩
  · exfalso; omega
def encR (c : Nat) (k : Int) : Int × Int := if (k < lst (ent c).k ∨ (mst (ent c).k : Int) < k) ∨ resI (ent c).nm k = true then (0, 3) else ((ent c).b + k, 0)
theorem wu16 {n : Int} (h : 0 ≤ n) (h' : n < 65536) : IntKind.u16.wrap n = n := by
  simp only [IntKind.wrap, IntKind.bits, IntKind.signed, Bool.false_and, Bool.false_eq_true, if_false]
  omega
theorem mst_le (k : Nat) : mst k ≤ 4095 ∧ lst k ≤ 1024 := by unfold mst lst; split <;> split <;> decide
theorem f36 (c : Nat) (k : Int) (h1 : 1 ≤ c) (h2 : c ≤ 39) : PureCall Tryd.prog 36 [opV c, i64 k] (tupV [.pv (.int .u16 (encR c k).1), i64 (encR c k).2]) := by
  have hl : ents.length = 39 := rfl
  have hb := ent_bd c
  have hm := mst_le (ent c).k
  have hc8 : IntKind.u8.wrap ((c : Int) - 1) = ((c - 1 : Nat) : Int) := by rw [wu8 (by omega) (by omega)]; omega
  have hbs : (((ents.map (fun x => x.b)).getD (c - 1) 0 : Nat) : Int) = ((ent c).b : Nat) := by rw [getD_map _ _ _ e0 _ (by omega)]; rfl
  refine PureCall.run tab_ok mixed (by kernel_rfl) Tryd.func36 rfl rfl rfl ?_
  conv => whnf
  repeat (first | ((with_reducible first | apply ga | apply gb | apply gc | apply gd | apply ge | apply gf | apply gg | apply gh | apply gi | apply gj); conv => whnf) | (refine ⟨⟨rfl, rfl, nle rfl, nle rfl⟩, ?_⟩; conv => whnf) | fail)
  refine CallK.flat [] (f35 c h1 h2) ⟨.same, trivial⟩ rfl ?_
  conv => whnf
  repeat (first | ((with_reducible first | apply ga | apply gb | apply gc | apply gd | apply ge | apply gf | apply gg | apply gh | apply gi | apply gj); conv => whnf) | (refine ⟨⟨rfl, rfl, nle rfl, nle rfl⟩, ?_⟩; conv => whnf) | fail)
  repeat (first | ((with_reducible first | apply ga | apply gb | apply gc | apply gd | apply ge | apply gf | apply gg | apply gh | apply gi | apply gj); conv => whnf) | (refine ⟨⟨rfl, rfl, nle rfl, nle rfl⟩, ?_⟩; conv => whnf) | (refine ⟨fun _ => ?_, fun h => absurd h (by decide)⟩; conv => whnf) | (refine ⟨fun h => absurd h (by decide), fun _ => ?_⟩; conv => whnf) | fail)
  refine CallK.flat [] (f52 c (ent c).nm (decide (19 < c)) (bitN (ent c).k) (ent c).c (ent c).k (kle c)) ⟨agg6 .same .same .same .same .same .same, trivial⟩ rfl ?_
  conv => whnf
  repeat (first | ((with_reducible first | apply ga | apply gb | apply gc | apply gd | apply ge | apply gf | apply gg | apply gh | apply gi | apply gj); conv => whnf) | (refine ⟨⟨rfl, rfl, nle rfl, nle rfl⟩, ?_⟩; conv => whnf) | fail)
  have bad : ((k < lst (ent c).k ∨ (mst (ent c).k : Int) < k) ∨ resI (ent c).nm k = true) → encR c k = (0, 3) := fun h => by unfold encR; rw [if_pos h]
  have good : ¬ ((k < lst (ent c).k ∨ (mst (ent c).k : Int) < k) ∨ resI (ent c).nm k = true) → encR c k = ((ent c).b + k, 0) := fun h => by unfold encR; rw [if_neg h]
  refine ⟨fun ha => ?_, fun ha => ?_⟩ <;> replace ha := nm ha <;> (try rw [Int.toNat_zero] at ha) <;> (try rw [Int.toNat_one] at ha)
  · conv => whnf
    repeat (first | ((with_reducible first | apply ga | apply gb | apply gc | apply gd | apply ge | apply gf | apply gg | apply gh | apply gi | apply gj); conv => whnf) | (refine ⟨⟨rfl, rfl, nle rfl, nle rfl⟩, ?_⟩; conv => whnf) | fail)
    refine ⟨fun hb => ?_, fun hb => ?_⟩ <;> replace hb := nm hb <;> (try rw [Int.toNat_zero] at hb) <;> (try rw [Int.toNat_one] at hb)
    · conv => whnf
      repeat (first | ((with_reducible first | apply ga | apply gb | apply gc | apply gd | apply ge | apply gf | apply gg | apply gh | apply gi | apply gj); conv => whnf) | (refine ⟨⟨rfl, rfl, nle rfl, nle rfl⟩, ?_⟩; conv => whnf) | fail)
      refine CallK.flat [] (f53 (ent c).nm k) ⟨.same, .same, trivial⟩ rfl ?_
      conv => whnf
      repeat (first | ((with_reducible first | apply ga | apply gb | apply gc | apply gd | apply ge | apply gf | apply gg | apply gh | apply gi | apply gj); conv => whnf) | (refine ⟨⟨rfl, rfl, nle rfl, nle rfl⟩, ?_⟩; conv => whnf) | fail)
      refine ⟨fun hr => ?_, fun hr => ?_⟩ <;> replace hr := nm hr <;> (try rw [Int.toNat_zero] at hr) <;> (try rw [Int.toNat_one] at hr)
      · conv => whnf
        repeat (first | ((with_reducible first | apply ga | apply gb | apply gc | apply gd | apply ge | apply gf | apply gg | apply gh | apply gi | apply gj); conv => whnf) | (refine ⟨⟨rfl, rfl, nle rfl, nle rfl⟩, ?_⟩; conv => whnf) | fail)
        rw [bad (.inr hr)]
        exact done_tup [.pv (.int .u16 0), i64 3] [] rfl ⟨.same, .same, trivial⟩
      · conv => whnf
        repeat (first | ((with_reducible first | apply ga | apply gb | apply gc | apply gd | apply ge | apply gf | apply gg | apply gh | apply gi | apply gj); conv => whnf) | (refine ⟨⟨rfl, rfl, nle rfl, nle rfl⟩, ?_⟩; conv => whnf) | fail)
        rw [good (by rw [hr]; simp; omega)]
        refine ⟨_, [], ⟨_, f34, trivial, .inr rfl⟩, ?_⟩
        conv => whnf
        repeat (first | ((with_reducible first | apply ga | apply gb | apply gc | apply gd | apply ge | apply gf | apply gg | apply gh | apply gi | apply gj); conv => whnf) | (refine ⟨⟨rfl, rfl, nle rfl, nle rfl⟩, ?_⟩; conv => whnf) | fail)
        rw [hc8]
        refine ⟨⟨by omega, by rw [List.length_map]; omega, rfl⟩, ?_⟩
        conv => whnf
        repeat (first | ((with_reducible first | apply ga | apply gb | apply gc | apply gd | apply ge | apply gf | apply gg | apply gh | apply gi | apply gj); conv => whnf) | (refine ⟨⟨rfl, rfl, nle rfl, nle rfl⟩, ?_⟩; conv => whnf) | fail)
        refine ⟨⟨by decide⟩, ?_⟩
        conv => whnf
        repeat (first | ((with_reducible first | apply ga | apply gb | apply gc | apply gd | apply ge | apply gf | apply gg | apply gh | apply gi | apply gj); conv => whnf) | (refine ⟨⟨rfl, rfl, nle rfl, nle rfl⟩, ?_⟩; conv => whnf) | fail)
        refine ⟨⟨by rw [show (((ents.map (fun x => x.b)).getD ((c - 1 : Nat) : Int).toNat 0 : Nat) : Int) = ((ent c).b : Nat) from hbs]; unfold inI64; omega⟩, ?_⟩
        conv => whnf
        repeat (first | ((with_reducible first | apply ga | apply gb | apply gc | apply gd | apply ge | apply gf | apply gg | apply gh | apply gi | apply gj); conv => whnf) | (refine ⟨⟨rfl, rfl, nle rfl, nle rfl⟩, ?_⟩; conv => whnf) | fail)
        refine ⟨rfl, ?_⟩
        conv => whnf
        repeat (first | ((with_reducible first | apply ga | apply gb | apply gc | apply gd | apply ge | apply gf | apply gg | apply gh | apply gi | apply gj); conv => whnf) | (refine ⟨⟨rfl, rfl, nle rfl, nle rfl⟩, ?_⟩; conv => whnf) | fail)
        exact done_tup [.pv (.int .u16 ((ent c).b + k)), i64 0] [] rfl ⟨VLe.int (by rw [show (((ents.map (fun x => x.b)).getD ((c - 1 : Nat) : Int).toNat 0 : Nat) : Int) = ((ent c).b : Nat) from hbs, wu16 (by omega) (by omega)]), .same, trivial⟩
    · conv => whnf
      repeat (first | ((with_reducible first | apply ga | apply gb | apply gc | apply gd | apply ge | apply gf | apply gg | apply gh | apply gi | apply gj); conv => whnf) | (refine ⟨⟨rfl, rfl, nle rfl, nle rfl⟩, ?_⟩; conv => whnf) | fail)
      rw [bad (.inl (.inr hb))]
      exact done_tup [.pv (.int .u16 0), i64 3] [] rfl ⟨.same, .same, trivial⟩
  · conv => whnf
    repeat (first | ((with_reducible first | apply ga | apply gb | apply gc | apply gd | apply ge | apply gf | apply gg | apply gh | apply gi | apply gj); conv => whnf) | (refine ⟨⟨rfl, rfl, nle rfl, nle rfl⟩, ?_⟩; conv => whnf) | fail)
    rw [bad (.inl (.inl ha))]
    exact done_tup [.pv (.int .u16 0), i64 3] [] rfl ⟨.same, .same, trivial⟩
end Go.Proofs.YtolgdbekdkldjaaDoor

namespace Go.Proofs.YtolgdbekdkldjaaDoor
open Go Go.AM
attribute [local irreducible] AWP CallK PureCall SubS HeapCall
theorem fits_iff {e : Ent} {w : Nat} : fits e w = true ↔ ¬ ((w : Int) - e.b < lst e.k ∨ (mst e.k : Int) < (w : Int) - e.b) := by
  unfold fits; rw [Bool.and_eq_true, Nat.ble_eq, Nat.ble_eq]; omega
theorem ole6 {H : Heap} {B : List Nat} {U : List (Nat × Nat)} {o o' : AO} (hE : o'.E = o.E) (hg : o'.gen = o.gen) (h3 : o.sz = 6) (hs : o'.sz = 6) (hn : o.n = 1) (hn' : o'.n = 1) (h0 : VLe H B U (o.f 0 0) (o'.f 0 0)) (h1 : VLe H B U (o.f 0 1) (o'.f 0 1)) (h2 : VLe H B U (o.f 0 2) (o'.f 0 2)) (h3' : VLe H B U (o.f 0 3) (o'.f 0 3)) (h4 : VLe H B U (o.f 0 4) (o'.f 0 4)) (h5 : VLe H B U (o.f 0 5) (o'.f 0 5)) : OLe H B U o o' :=
  ⟨hE, hg, hs.trans h3.symm, by omega, fun i j hi hj => by
    have hi0 : i = 0 := by omega
    subst hi0
    match j, (show j < 6 by omega) with
    | 0, _ => exact h0
    | 1, _ => exact h1
    | 2, _ => exact h2
    | 3, _ => exact h3'
    | 4, _ => exact h4
    | 5, _ => exact h5⟩
def opO : AO := ⟨49, 0, 6, 1, fun _ j => getL [u8 0, st [], bb false, u8 0, i64 0, i64 0] j⟩
set_option maxHeartbeats 1000000 in
theorem f21 (w : Nat) (x : Bool) (hw : w < 32768) : PureCall Tryd.prog 21 [.pv (.int .u16 w), bb x] (decT w x) := by
  obtain ⟨r0, r1, r2, r3⟩ := ref_dec (w := w) x hw
  have hl : ents.length = 39 := rfl
  refine PureCall.run tab_ok mixed (by kernel_rfl) Tryd.func21 rfl rfl rfl ?_
  conv => whnf
  repeat (first | ((with_reducible first | apply ga | apply gb | apply gc | apply gd | apply ge | apply gf | apply gg | apply gh | apply gi | apply gj); conv => whnf) | (refine ⟨⟨rfl, rfl, nle rfl, nle rfl⟩, ?_⟩; conv => whnf) | fail)
  refine ⟨fun h0 => ?_, fun h0 => ?_⟩ <;> replace h0 := nm h0 <;> (try rw [Int.toNat_zero] at h0) <;> (try rw [Int.toNat_one] at h0)
  · exfalso; omega
  · conv => whnf
    repeat (first | ((with_reducible first | apply ga | apply gb | apply gc | apply gd | apply ge | apply gf | apply gg | apply gh | apply gi | apply gj); conv => whnf) | (refine ⟨⟨rfl, rfl, nle rfl, nle rfl⟩, ?_⟩; conv => whnf) | fail)
    refine CallK.drop [] f34 trivial ?_
    conv => whnf
    repeat (first | ((with_reducible first | apply ga | apply gb | apply gc | apply gd | apply ge | apply gf | apply gg | apply gh | apply gi | apply gj); conv => whnf) | (refine ⟨⟨rfl, rfl, nle rfl, nle rfl⟩, ?_⟩; conv => whnf) | fail)
    refine ex_loop tab_ok mixed (fun i : Nat => i ≤ 39 ∧ refE w x (ents.drop i) (i + 1) = decN w x) (fun i => mkSt 64 [(0, .pv (.int .u16 w)), (1, bb x), (4, .ptr 4 0 6 0 0), (7, .pv (sqA 3 1 icell 0 (ents.map (·.b)))), (8, i64 i)] [(4, opO)]) (fun i => 39 - i) 0 ⟨Nat.zero_le _, r0⟩ (SubS.mk [] rfl ⟨⟨_, rfl, .same⟩, ⟨_, rfl, .same⟩, ⟨_, rfl, .ptr _ _ _ _ _ _ _ _ _ rfl rfl rfl rfl⟩, ⟨_, rfl, .same⟩, ⟨_, rfl, .same⟩, trivial⟩ ⟨.inl ⟨_, _, rfl, rfl, rfl, ole6 rfl rfl rfl rfl rfl rfl .same .same .same .same .same .same⟩, trivial⟩) ?_
    rintro i ⟨hi, hI⟩
    conv => whnf
    repeat (first | ((with_reducible first | apply ga | apply gb | apply gc | apply gd | apply ge | apply gf | apply gg | apply gh | apply gi | apply gj); conv => whnf) | (refine ⟨⟨rfl, rfl, nle rfl, nle rfl⟩, ?_⟩; conv => whnf) | fail)
    refine ⟨fun hc => ?_, fun hc => ?_⟩ <;> replace hc := nm hc <;> (try rw [Int.toNat_zero] at hc) <;> (try rw [Int.toNat_one] at hc)
    · have hi39 : i < 39 := by rw [List.length_map] at hc; omega
      have hb := ent_bd (i + 1)
      have hm := mst_le (ent (i + 1)).k
      have hbs : (((ents.map (fun x => x.b)).getD i 0 : Nat) : Int) = ((ent (i + 1)).b : Nat) := by rw [getD_map _ _ _ e0 _ (by omega)]; rfl
      have hk : IntKind.i64.wrap (w : Int) - (((ents.map (fun x => x.b)).getD (i : Int).toNat 0 : Nat) : Int) = (w : Int) - ((ent (i + 1)).b : Nat) := by rw [wi64 (by omega) (by omega), Int.toNat_natCast, hbs]
      have h8 : IntKind.u8.wrap ((i : Int) + 1) = ((i + 1 : Nat) : Int) := by rw [wu8 (by omega) (by omega)]; omega
      rw [drop_getD (d := e0) (by omega : i < ents.length), ent_at, refE] at hI
      conv => whnf
      repeat (first | ((with_reducible first | apply ga | apply gb | apply gc | apply gd | apply ge | apply gf | apply gg | apply gh | apply gi | apply gj); conv => whnf) | (refine ⟨⟨rfl, rfl, nle rfl, nle rfl⟩, ?_⟩; conv => whnf) | fail)
      refine ⟨⟨by unfold inI64; omega⟩, ?_⟩
      conv => whnf
      repeat (first | ((with_reducible first | apply ga | apply gb | apply gc | apply gd | apply ge | apply gf | apply gg | apply gh | apply gi | apply gj); conv => whnf) | (refine ⟨⟨rfl, rfl, nle rfl, nle rfl⟩, ?_⟩; conv => whnf) | fail)
      refine CallK.flat [] (f35 (i + 1) (by omega) (by omega)) ⟨VLe.int h8, trivial⟩ rfl ?_
      conv => whnf
      repeat (first | ((with_reducible first | apply ga | apply gb | apply gc | apply gd | apply ge | apply gf | apply gg | apply gh | apply gi | apply gj); conv => whnf) | (refine ⟨⟨rfl, rfl, nle rfl, nle rfl⟩, ?_⟩; conv => whnf) | fail)
      refine ⟨⟨by omega, by omega, rfl⟩, ?_⟩
      conv => whnf
      repeat (first | ((with_reducible first | apply ga | apply gb | apply gc | apply gd | apply ge | apply gf | apply gg | apply gh | apply gi | apply gj); conv => whnf) | (refine ⟨⟨rfl, rfl, nle rfl, nle rfl⟩, ?_⟩; conv => whnf) | fail)
      refine ⟨⟨by decide⟩, ?_⟩
      conv => whnf
      repeat (first | ((with_reducible first | apply ga | apply gb | apply gc | apply gd | apply ge | apply gf | apply gg | apply gh | apply gi | apply gj); conv => whnf) | (refine ⟨⟨rfl, rfl, nle rfl, nle rfl⟩, ?_⟩; conv => whnf) | fail)
      refine ⟨⟨by rw [hk]; unfold inI64; omega⟩, ?_⟩
      conv => whnf
      repeat (first | ((with_reducible first | apply ga | apply gb | apply gc | apply gd | apply ge | apply gf | apply gg | apply gh | apply gi | apply gj); conv => whnf) | (refine ⟨⟨rfl, rfl, nle rfl, nle rfl⟩, ?_⟩; conv => whnf) | fail)
      refine ⟨_, [], ⟨_, (f36 (i + 1) ((w : Int) - (ent (i + 1)).b) (by omega) (by omega)), ⟨agg6 .same .same .same .same .same .same,VLe.int hk, trivial⟩, .inl rfl⟩, ?_⟩
      conv => whnf
      repeat (first | ((with_reducible first | apply ga | apply gb | apply gc | apply gd | apply ge | apply gf | apply gg | apply gh | apply gi | apply gj); conv => whnf) | (refine ⟨⟨rfl, rfl, nle rfl, nle rfl⟩, ?_⟩; conv => whnf) | fail)
      refine ⟨rfl, ?_⟩
      conv => whnf
      repeat (first | ((with_reducible first | apply ga | apply gb | apply gc | apply gd | apply ge | apply gf | apply gg | apply gh | apply gi | apply gj); conv => whnf) | (refine ⟨⟨rfl, rfl, nle rfl, nle rfl⟩, ?_⟩; conv => whnf) | fail)
      have hx0 : (Nat.ble 20 (i + 1) == x) = (decide (19 < ((i + 1 : Nat) : Int)) == x) := by
        rw [show Nat.ble 20 (i + 1) = decide (19 < ((i + 1 : Nat) : Int)) by rw [Bool.eq_iff_iff, Nat.ble_eq, decide_eq_true_eq]; omega]
      have hd19 : (decide (19 < i + 1) == x) = (decide (19 < ((i + 1 : Nat) : Int)) == x) := by
        rw [show decide (19 < i + 1) = decide (19 < ((i + 1 : Nat) : Int)) by rw [decide_eq_decide]; omega]
      cases hf : fits (ent (i + 1)) w && !(resv (i + 1) (w - (ent (i + 1)).b)) with
      | true =>
        rw [Bool.and_eq_true, Bool.not_eq_true'] at hf
        have hle := hf.1
        rw [fits_iff] at hle
        have he : encR (i + 1) ((w : Int) - (ent (i + 1)).b) = ((w : Int), 0) := by
          have hn : (w : Int) - (ent (i + 1)).b = ((w - (ent (i + 1)).b : Nat) : Int) := by omega
          unfold encR
          rw [if_neg]
          · congr 1; omega
          · rintro (h | h)
            · exact hle h
            · rw [hn, res_eq (by omega) (by omega), hf.2] at h; cases h
        rw [he]
        rw [hf.1, hf.2, hx0, ← hd19] at hI
        refine ⟨fun hx => ?_, fun hx => ?_⟩ <;> replace hx := nm hx <;> (try rw [Int.toNat_zero] at hx) <;> (try rw [Int.toNat_one] at hx)
        · have hx' : (decide (19 < i + 1) == x) = true := by simpa using hx
          rw [hx'] at hI
          have hI' : i + 1 = decN w x := hI
          repeat (first | ((with_reducible first | apply ga | apply gb | apply gc | apply gd | apply ge | apply gf | apply gg | apply gh | apply gi | apply gj); conv => whnf) | (refine ⟨⟨rfl, rfl, nle rfl, nle rfl⟩, ?_⟩; conv => whnf) | (refine ⟨fun _ => ?_, fun h => absurd h (by simp)⟩; conv => whnf) | fail)
          refine ⟨⟨by omega, by omega, rfl⟩, ?_⟩
          conv => whnf
          repeat (first | ((with_reducible first | apply ga | apply gb | apply gc | apply gd | apply ge | apply gf | apply gg | apply gh | apply gi | apply gj); conv => whnf) | (refine ⟨⟨rfl, rfl, nle rfl, nle rfl⟩, ?_⟩; conv => whnf) | fail)
          refine ⟨⟨by decide⟩, ?_⟩
          conv => whnf
          repeat (first | ((with_reducible first | apply ga | apply gb | apply gc | apply gd | apply ge | apply gf | apply gg | apply gh | apply gi | apply gj); conv => whnf) | (refine ⟨⟨rfl, rfl, nle rfl, nle rfl⟩, ?_⟩; conv => whnf) | fail)
          refine ⟨⟨by rw [hk]; unfold inI64; omega⟩, ?_⟩
          conv => whnf
          repeat (first | ((with_reducible first | apply ga | apply gb | apply gc | apply gd | apply ge | apply gf | apply gg | apply gh | apply gi | apply gj); conv => whnf) | (refine ⟨⟨rfl, rfl, nle rfl, nle rfl⟩, ?_⟩; conv => whnf) | fail)
          refine ⟨rfl, ?_⟩
          conv => whnf
          repeat (first | ((with_reducible first | apply ga | apply gb | apply gc | apply gd | apply ge | apply gf | apply gg | apply gh | apply gi | apply gj); conv => whnf) | (refine ⟨⟨rfl, rfl, nle rfl, nle rfl⟩, ?_⟩; conv => whnf) | fail)
          unfold decT
          rw [← hI']
          exact done_tup [opV (i + 1), i64 ((w : Int) - (ent (i + 1)).b), i64 0] [] rfl ⟨agg6 .same .same .same .same .same .same, VLe.int hk, .same, trivial⟩
        · have hx' : (decide (19 < i + 1) == x) = false := by simpa using hx
          rw [hx'] at hI
          have hI : refE w x (ents.drop (i + 1)) (i + 1 + 1) = decN w x := hI
          conv => whnf
          repeat (first | ((with_reducible first | apply ga | apply gb | apply gc | apply gd | apply ge | apply gf | apply gg | apply gh | apply gi | apply gj); conv => whnf) | (refine ⟨⟨rfl, rfl, nle rfl, nle rfl⟩, ?_⟩; conv => whnf) | fail)
          refine ⟨⟨by unfold inI64; omega⟩, ?_⟩
          conv => whnf
          repeat (first | ((with_reducible first | apply ga | apply gb | apply gc | apply gd | apply ge | apply gf | apply gg | apply gh | apply gi | apply gj); conv => whnf) | (refine ⟨⟨rfl, rfl, nle rfl, nle rfl⟩, ?_⟩; conv => whnf) | fail)
          exact ⟨i + 1, ⟨by omega, hI⟩, SubS.mk [] rfl ⟨⟨_, rfl, .same⟩, ⟨_, rfl, .same⟩, ⟨_, rfl, .ptr _ _ _ _ _ _ _ _ _ rfl rfl rfl rfl⟩, ⟨_, rfl, .same⟩, ⟨_, rfl, .same⟩, trivial⟩ ⟨.inl ⟨_, _, rfl, rfl, rfl, ole6 rfl rfl rfl rfl rfl rfl .same .same .same .same .same .same⟩, trivial⟩, by omega⟩
      | false =>
        have he : encR (i + 1) ((w : Int) - (ent (i + 1)).b) = (0, 3) := by
          unfold encR
          rw [if_pos]
          by_cases h : ((w : Int) - (ent (i + 1)).b < lst (ent (i + 1)).k ∨ (mst (ent (i + 1)).k : Int) < (w : Int) - (ent (i + 1)).b)
          · exact .inl h
          · have hfit := fits_iff.mpr h
            rw [hfit, Bool.true_and, Bool.not_eq_false'] at hf
            have hn : (w : Int) - (ent (i + 1)).b = ((w - (ent (i + 1)).b : Nat) : Int) := by omega
            right
            rw [hn, res_eq (by omega) (by omega), hf]
        rw [he]
        rw [Bool.and_assoc, hf, Bool.and_false, cond_false] at hI
        refine ⟨fun hx => ?_, fun hx => ?_⟩ <;> replace hx := nm hx <;> (try rw [Int.toNat_zero] at hx) <;> (try rw [Int.toNat_one] at hx)
        · conv => whnf
          repeat (first | ((with_reducible first | apply ga | apply gb | apply gc | apply gd | apply ge | apply gf | apply gg | apply gh | apply gi | apply gj); conv => whnf) | (refine ⟨⟨rfl, rfl, nle rfl, nle rfl⟩, ?_⟩; conv => whnf) | fail)
          repeat (first | ((with_reducible first | apply ga | apply gb | apply gc | apply gd | apply ge | apply gf | apply gg | apply gh | apply gi | apply gj); conv => whnf) | (refine ⟨⟨rfl, rfl, nle rfl, nle rfl⟩, ?_⟩; conv => whnf) | (refine ⟨fun _ => ?_, fun h => absurd h (by decide +kernel)⟩; conv => whnf) | (refine ⟨fun h => absurd h (by decide +kernel), fun _ => ?_⟩; conv => whnf) | fail)
          refine ⟨⟨by unfold inI64; omega⟩, ?_⟩
          conv => whnf
          repeat (first | ((with_reducible first | apply ga | apply gb | apply gc | apply gd | apply ge | apply gf | apply gg | apply gh | apply gi | apply gj); conv => whnf) | (refine ⟨⟨rfl, rfl, nle rfl, nle rfl⟩, ?_⟩; conv => whnf) | fail)
          exact ⟨i + 1, ⟨by omega, hI⟩, SubS.mk [] rfl ⟨⟨_, rfl, .same⟩, ⟨_, rfl, .same⟩, ⟨_, rfl, .ptr _ _ _ _ _ _ _ _ _ rfl rfl rfl rfl⟩, ⟨_, rfl, .same⟩, ⟨_, rfl, .same⟩, trivial⟩ ⟨.inl ⟨_, _, rfl, rfl, rfl, ole6 rfl rfl rfl rfl rfl rfl .same .same .same .same .same .same⟩, trivial⟩, by omega⟩
        · conv => whnf
          repeat (first | ((with_reducible first | apply ga | apply gb | apply gc | apply gd | apply ge | apply gf | apply gg | apply gh | apply gi | apply gj); conv => whnf) | (refine ⟨⟨rfl, rfl, nle rfl, nle rfl⟩, ?_⟩; conv => whnf) | fail)
          refine ⟨⟨by unfold inI64; omega⟩, ?_⟩
          conv => whnf
          repeat (first | ((with_reducible first | apply ga | apply gb | apply gc | apply gd | apply ge | apply gf | apply gg | apply gh | apply gi | apply gj); conv => whnf) | (refine ⟨⟨rfl, rfl, nle rfl, nle rfl⟩, ?_⟩; conv => whnf) | fail)
          exact ⟨i + 1, ⟨by omega, hI⟩, SubS.mk [] rfl ⟨⟨_, rfl, .same⟩, ⟨_, rfl, .same⟩, ⟨_, rfl, .ptr _ _ _ _ _ _ _ _ _ rfl rfl rfl rfl⟩, ⟨_, rfl, .same⟩, ⟨_, rfl, .same⟩, trivial⟩ ⟨.inl ⟨_, _, rfl, rfl, rfl, ole6 rfl rfl rfl rfl rfl rfl .same .same .same .same .same .same⟩, trivial⟩, by omega⟩
    · exfalso
      rw [List.length_map] at hc
      obtain rfl : i = 39 := by omega
      rw [show ents.drop 39 = [] from rfl, refE] at hI
      omega
end Go.Proofs.YtolgdbekdkldjaaDoor

namespace Go.Proofs.YtolgdbekdkldjaaDoor
open Go Go.AM
attribute [local irreducible] AWP CallK PureCall SubS HeapCall
def u16 (n : Int) : AV := .pv (.int .u16 n)
theorem and15 (w : Nat) (h : w < 65536) : bitsOf .and .u16 (w : Int) 32767 = ((w % 32768 : Nat) : Int) := by
  simp only [bitsOf]
  have e : ((BitVec.ofInt IntKind.u16.bits (w : Int)) &&& (BitVec.ofInt IntKind.u16.bits 32767)).toNat = w % 32768 := by
    rw [BitVec.toNat_and]
    have h1 : (BitVec.ofInt IntKind.u16.bits (w : Int)).toNat = w := by
      rw [BitVec.ofInt_natCast, BitVec.toNat_ofNat]
      exact Nat.mod_eq_of_lt h
    have h2 : (BitVec.ofInt IntKind.u16.bits 32767).toNat = 32767 := rfl
    rw [h1, h2, show (32767 : Nat) = 2 ^ 15 - 1 from rfl, Nat.and_two_pow_sub_one_eq_mod]
  rw [e, wu16 (by omega) (by omega)]
theorem f8 (w : Nat) (x : Bool) (h : w < 65536) : PureCall Tryd.prog 8 [u16 w, bb x] (oneL (w % 32768) x).av := by
  have hk := kle (decN (w % 32768) x)
  refine PureCall.run tab_ok mixed (by kernel_rfl) Tryd.func8 rfl rfl rfl ?_
  conv => whnf
  repeat (first | ((with_reducible first | apply ga | apply gb | apply gc | apply gd | apply ge | apply gf | apply gg | apply gh | apply gi | apply gj); conv => whnf) | (refine ⟨⟨rfl, rfl, nle rfl, nle rfl⟩, ?_⟩; conv => whnf) | fail)
  refine CallK.flat [] (f19 (w % 32768) x (by omega)) ⟨VLe.int (and15 w h),.same, trivial⟩ rfl ?_
  conv => whnf
  repeat (first | ((with_reducible first | apply ga | apply gb | apply gc | apply gd | apply ge | apply gf | apply gg | apply gh | apply gi | apply gj); conv => whnf) | (refine ⟨⟨rfl, rfl, nle rfl, nle rfl⟩, ?_⟩; conv => whnf) | fail)
  refine ⟨fun h => absurd h (by simp), fun _ => ?_⟩
  conv => whnf
  repeat (first | ((with_reducible first | apply ga | apply gb | apply gc | apply gd | apply ge | apply gf | apply gg | apply gh | apply gi | apply gj); conv => whnf) | (refine ⟨⟨rfl, rfl, nle rfl, nle rfl⟩, ?_⟩; conv => whnf) | fail)
  refine ⟨fun hz => ?_, fun hz => ?_⟩ <;> replace hz := nm hz <;> (try rw [Int.toNat_zero] at hz) <;> (try rw [Int.toNat_one] at hz)
  · conv => whnf
    repeat (first | ((with_reducible first | apply ga | apply gb | apply gc | apply gd | apply ge | apply gf | apply gg | apply gh | apply gi | apply gj); conv => whnf) | (refine ⟨⟨rfl, rfl, nle rfl, nle rfl⟩, ?_⟩; conv => whnf) | fail)
    refine CallK.flat [] (f20 ((w % 32768 : Nat) - (ent (decN (w % 32768) x)).b)) ⟨.same, trivial⟩ rfl ?_
    conv => whnf
    repeat (first | ((with_reducible first | apply ga | apply gb | apply gc | apply gd | apply ge | apply gf | apply gg | apply gh | apply gi | apply gj); conv => whnf) | (refine ⟨⟨rfl, rfl, nle rfl, nle rfl⟩, ?_⟩; conv => whnf) | fail)
    have e : oneL (w % 32768) x = ⟨[], (ent (decN (w % 32768) x)).nm, ⟨1, [], ((w % 32768 : Nat) : Int) - (ent (decN (w % 32768) x)).b⟩⟩ := by unfold oneL; rw [if_neg (by omega)]
    rw [e]
    exact ⟨[], agg5 .same .same .same .same .same⟩
  · conv => whnf
    repeat (first | ((with_reducible first | apply ga | apply gb | apply gc | apply gd | apply ge | apply gf | apply gg | apply gh | apply gi | apply gj); conv => whnf) | (refine ⟨⟨rfl, rfl, nle rfl, nle rfl⟩, ?_⟩; conv => whnf) | fail)
    have e : oneL (w % 32768) x = ⟨[], (ent (decN (w % 32768) x)).nm, az⟩ := by unfold oneL; rw [if_pos (by omega)]
    rw [e]
    exact ⟨[], agg5 .same .same .same .same .same⟩
theorem f9 (w : Nat) (x : Bool) (h : w < 65536) : PureCall Tryd.prog 9 [u16 w, bb x] (oneL (w % 32768) x).av := by
  have hk := kle (decN (w % 32768) x)
  have hm : Int.tmod (w : Int) 32768 = ((w % 32768 : Nat) : Int) := by rw [Int.tmod_eq_emod_of_nonneg (by omega)]; omega
  refine PureCall.run tab_ok mixed (by kernel_rfl) Tryd.func9 rfl rfl rfl ?_
  conv => whnf
  repeat (first | ((with_reducible first | apply ga | apply gb | apply gc | apply gd | apply ge | apply gf | apply gg | apply gh | apply gi | apply gj); conv => whnf) | (refine ⟨⟨rfl, rfl, nle rfl, nle rfl⟩, ?_⟩; conv => whnf) | fail)
  refine ⟨⟨by decide⟩, ?_⟩
  conv => whnf
  repeat (first | ((with_reducible first | apply ga | apply gb | apply gc | apply gd | apply ge | apply gf | apply gg | apply gh | apply gi | apply gj); conv => whnf) | (refine ⟨⟨rfl, rfl, nle rfl, nle rfl⟩, ?_⟩; conv => whnf) | fail)
  refine CallK.flat [] (f21 (w % 32768) x (by omega)) ⟨VLe.int hm,.same, trivial⟩ rfl ?_
  conv => whnf
  repeat (first | ((with_reducible first | apply ga | apply gb | apply gc | apply gd | apply ge | apply gf | apply gg | apply gh | apply gi | apply gj); conv => whnf) | (refine ⟨⟨rfl, rfl, nle rfl, nle rfl⟩, ?_⟩; conv => whnf) | fail)
  refine ⟨fun hz => ?_, fun hz => ?_⟩ <;> replace hz := nm hz <;> (try rw [Int.toNat_zero] at hz) <;> (try rw [Int.toNat_one] at hz)
  · conv => whnf
    repeat (first | ((with_reducible first | apply ga | apply gb | apply gc | apply gd | apply ge | apply gf | apply gg | apply gh | apply gi | apply gj); conv => whnf) | (refine ⟨⟨rfl, rfl, nle rfl, nle rfl⟩, ?_⟩; conv => whnf) | fail)
    have e : oneL (w % 32768) x = ⟨[], (ent (decN (w % 32768) x)).nm, az⟩ := by unfold oneL; rw [if_pos (by omega)]
    rw [e]
    exact ⟨[], agg5 .same .same .same .same .same⟩
  · conv => whnf
    repeat (first | ((with_reducible first | apply ga | apply gb | apply gc | apply gd | apply ge | apply gf | apply gg | apply gh | apply gi | apply gj); conv => whnf) | (refine ⟨⟨rfl, rfl, nle rfl, nle rfl⟩, ?_⟩; conv => whnf) | fail)
    refine ⟨_, [], ⟨_, (f22 (((w % 32768 : Nat) : Int) - (ent (decN (w % 32768) x)).b)), ⟨.same, trivial⟩, .inl rfl⟩, ?_⟩
    conv => whnf
    repeat (first | ((with_reducible first | apply ga | apply gb | apply gc | apply gd | apply ge | apply gf | apply gg | apply gh | apply gi | apply gj); conv => whnf) | (refine ⟨⟨rfl, rfl, nle rfl, nle rfl⟩, ?_⟩; conv => whnf) | fail)
    refine ⟨rfl, ?_⟩
    conv => whnf
    repeat (first | ((with_reducible first | apply ga | apply gb | apply gc | apply gd | apply ge | apply gf | apply gg | apply gh | apply gi | apply gj); conv => whnf) | (refine ⟨⟨rfl, rfl, nle rfl, nle rfl⟩, ?_⟩; conv => whnf) | fail)
    have e : oneL (w % 32768) x = ⟨[], (ent (decN (w % 32768) x)).nm, ⟨1, [], ((w % 32768 : Nat) : Int) - (ent (decN (w % 32768) x)).b⟩⟩ := by unfold oneL; rw [if_neg (by omega)]
    rw [e]
    exact ⟨[], agg5 .same .same .same .same .same⟩
structure BankR where
  num : Int
  ws : List Nat
def wcell (n : Nat) (_ : Nat) : PV := .int .u16 n
def wordsP (ws : List Nat) : PV := sqA 23 1 wcell 0 ws
def BankR.c (b : BankR) : Nat → AV := getL [i64 b.num, .pv (wordsP b.ws)]
def BankR.av (b : BankR) : AV := .agg 2 b.c
theorem agg2 {H : Heap} {B : List Nat} {U : List (Nat × Nat)} {f g : Nat → AV} (h0 : VLe H B U (f 0) (g 0)) (h1 : VLe H B U (f 1) (g 1)) : VLe H B U (.agg 2 f) (.agg 2 g) :=
  .agg _ _ _ fun i hi => match i, hi with
    | 0, _ => h0
    | 1, _ => h1
def BankB (b : BankR) : Prop := inI64 b.num ∧ b.ws.length < 2 ^ 46 ∧ ∀ w ∈ b.ws, w < 65536
/-- A bank's error. -/
def checkB (b : BankR) : Int := if b.num < 0 ∨ 36 ≤ b.num then 3 else if 1024 < b.ws.length then 4 else if b.ws.any (fun w => decide (32767 < w)) then 3 else 0
theorem any_drop {ws : List Nat} {i : Nat} (h : i < ws.length) : (ws.drop i).any (fun w => decide (32767 < w)) = (decide (32767 < ws.getD i 0) || (ws.drop (i + 1)).any (fun w => decide (32767 < w))) := by
  rw [drop_getD (d := 0) h]; rfl
theorem f23 (b : BankR) (hB : BankB b) : PureCall Tryd.prog 23 [b.av] (i64 (checkB b)) := by
  obtain ⟨h1, h2, h3⟩ := hB
  refine PureCall.run tab_ok mixed (by kernel_rfl) Tryd.func23 rfl rfl rfl ?_
  conv => whnf
  repeat (first | ((with_reducible first | apply ga | apply gb | apply gc | apply gd | apply ge | apply gf | apply gg | apply gh | apply gi | apply gj); conv => whnf) | (refine ⟨⟨rfl, rfl, nle rfl, nle rfl⟩, ?_⟩; conv => whnf) | fail)
  refine ⟨fun ha => ?_, fun ha => ?_⟩ <;> replace ha := nm ha <;> (try rw [Int.toNat_zero] at ha) <;> (try rw [Int.toNat_one] at ha)
  · conv => whnf
    repeat (first | ((with_reducible first | apply ga | apply gb | apply gc | apply gd | apply ge | apply gf | apply gg | apply gh | apply gi | apply gj); conv => whnf) | (refine ⟨⟨rfl, rfl, nle rfl, nle rfl⟩, ?_⟩; conv => whnf) | fail)
    refine ⟨fun hb => ?_, fun hb => ?_⟩ <;> replace hb := nm hb <;> (try rw [Int.toNat_zero] at hb) <;> (try rw [Int.toNat_one] at hb)
    · conv => whnf
      repeat (first | ((with_reducible first | apply ga | apply gb | apply gc | apply gd | apply ge | apply gf | apply gg | apply gh | apply gi | apply gj); conv => whnf) | (refine ⟨⟨rfl, rfl, nle rfl, nle rfl⟩, ?_⟩; conv => whnf) | fail)
      have e : checkB b = 3 := by unfold checkB; rw [if_pos (by omega)]
      rw [e]; exact ⟨[], .same⟩
    · conv => whnf
      repeat (first | ((with_reducible first | apply ga | apply gb | apply gc | apply gd | apply ge | apply gf | apply gg | apply gh | apply gi | apply gj); conv => whnf) | (refine ⟨⟨rfl, rfl, nle rfl, nle rfl⟩, ?_⟩; conv => whnf) | fail)
      refine ⟨fun hc => ?_, fun hc => ?_⟩ <;> replace hc := nm hc <;> (try rw [Int.toNat_zero] at hc) <;> (try rw [Int.toNat_one] at hc)
      · conv => whnf
        repeat (first | ((with_reducible first | apply ga | apply gb | apply gc | apply gd | apply ge | apply gf | apply gg | apply gh | apply gi | apply gj); conv => whnf) | (refine ⟨⟨rfl, rfl, nle rfl, nle rfl⟩, ?_⟩; conv => whnf) | fail)
        have e : checkB b = 4 := by unfold checkB; rw [if_neg (by omega), if_pos (by omega)]
        rw [e]; exact ⟨[], .same⟩
      · have e : checkB b = if b.ws.any (fun w => decide (32767 < w)) then 3 else 0 := by unfold checkB; rw [if_neg (by omega), if_neg (by omega)]
        conv => whnf
        repeat (first | ((with_reducible first | apply ga | apply gb | apply gc | apply gd | apply ge | apply gf | apply gg | apply gh | apply gi | apply gj); conv => whnf) | (refine ⟨⟨rfl, rfl, nle rfl, nle rfl⟩, ?_⟩; conv => whnf) | fail)
        refine ex_loop tab_ok mixed (fun i : Nat => i ≤ b.ws.length ∧ b.ws.any (fun w => decide (32767 < w)) = (b.ws.drop i).any (fun w => decide (32767 < w))) (fun i => mkSt 29 [(20, .pv (wordsP b.ws)), (21, i64 b.ws.length), (22, i64 i)] []) (fun i => b.ws.length - i) 0 ⟨Nat.zero_le _, rfl⟩ (SubS.mk [] rfl ⟨⟨_, rfl, .same⟩, ⟨_, rfl, .same⟩, ⟨_, rfl, .same⟩, trivial⟩ trivial) ?_
        rintro i ⟨hi, hI⟩
        conv => whnf
        repeat (first | ((with_reducible first | apply ga | apply gb | apply gc | apply gd | apply ge | apply gf | apply gg | apply gh | apply gi | apply gj); conv => whnf) | (refine ⟨⟨rfl, rfl, nle rfl, nle rfl⟩, ?_⟩; conv => whnf) | fail)
        refine ⟨fun hl => ?_, fun hl => ?_⟩ <;> replace hl := nm hl <;> (try rw [Int.toNat_zero] at hl) <;> (try rw [Int.toNat_one] at hl)
        · have hlt : i < b.ws.length := by omega
          rw [any_drop hlt] at hI
          conv => whnf
          repeat (first | ((with_reducible first | apply ga | apply gb | apply gc | apply gd | apply ge | apply gf | apply gg | apply gh | apply gi | apply gj); conv => whnf) | (refine ⟨⟨rfl, rfl, nle rfl, nle rfl⟩, ?_⟩; conv => whnf) | fail)
          refine ⟨⟨by omega, by omega, rfl⟩, ?_⟩
          conv => whnf
          repeat (first | ((with_reducible first | apply ga | apply gb | apply gc | apply gd | apply ge | apply gf | apply gg | apply gh | apply gi | apply gj); conv => whnf) | (refine ⟨⟨rfl, rfl, nle rfl, nle rfl⟩, ?_⟩; conv => whnf) | fail)
          refine ⟨⟨by decide⟩, ?_⟩
          conv => whnf
          repeat (first | ((with_reducible first | apply ga | apply gb | apply gc | apply gd | apply ge | apply gf | apply gg | apply gh | apply gi | apply gj); conv => whnf) | (refine ⟨⟨rfl, rfl, nle rfl, nle rfl⟩, ?_⟩; conv => whnf) | fail)
          refine ⟨fun hw => ?_, fun hw => ?_⟩ <;> replace hw := nm hw <;> (try rw [Int.toNat_zero] at hw) <;> (try rw [Int.toNat_one] at hw)
          · rw [hI, show decide (32767 < b.ws.getD i 0) = true from decide_eq_true (by have : (32767 : Int) < (b.ws.getD i 0 : Nat) := hw; omega)] at e
            conv => whnf
            repeat (first | ((with_reducible first | apply ga | apply gb | apply gc | apply gd | apply ge | apply gf | apply gg | apply gh | apply gi | apply gj); conv => whnf) | (refine ⟨⟨rfl, rfl, nle rfl, nle rfl⟩, ?_⟩; conv => whnf) | fail)
            rw [e]; exact ⟨[], .same⟩
          · rw [show decide (32767 < b.ws.getD i 0) = false from decide_eq_false (by have : ((b.ws.getD i 0 : Nat) : Int) ≤ 32767 := hw; omega), Bool.false_or] at hI
            conv => whnf
            repeat (first | ((with_reducible first | apply ga | apply gb | apply gc | apply gd | apply ge | apply gf | apply gg | apply gh | apply gi | apply gj); conv => whnf) | (refine ⟨⟨rfl, rfl, nle rfl, nle rfl⟩, ?_⟩; conv => whnf) | fail)
            refine ⟨⟨by unfold inI64; omega⟩, ?_⟩
            conv => whnf
            repeat (first | ((with_reducible first | apply ga | apply gb | apply gc | apply gd | apply ge | apply gf | apply gg | apply gh | apply gi | apply gj); conv => whnf) | (refine ⟨⟨rfl, rfl, nle rfl, nle rfl⟩, ?_⟩; conv => whnf) | fail)
            exact ⟨i + 1, ⟨by omega, hI⟩, SubS.mk [] rfl ⟨⟨_, rfl, .same⟩, ⟨_, rfl, .same⟩, ⟨_, rfl, .same⟩, trivial⟩ trivial, by omega⟩
        · rw [List.drop_eq_nil_of_le (by omega), List.any_nil] at hI
          rw [hI] at e
          conv => whnf
          repeat (first | ((with_reducible first | apply ga | apply gb | apply gc | apply gd | apply ge | apply gf | apply gg | apply gh | apply gi | apply gj); conv => whnf) | (refine ⟨⟨rfl, rfl, nle rfl, nle rfl⟩, ?_⟩; conv => whnf) | fail)
          rw [e]; exact ⟨[], .same⟩
  · conv => whnf
    repeat (first | ((with_reducible first | apply ga | apply gb | apply gc | apply gd | apply ge | apply gf | apply gg | apply gh | apply gi | apply gj); conv => whnf) | (refine ⟨⟨rfl, rfl, nle rfl, nle rfl⟩, ?_⟩; conv => whnf) | fail)
    have e : checkB b = 3 := by unfold checkB; rw [if_pos (by omega)]
    rw [e]; exact ⟨[], .same⟩
end Go.Proofs.YtolgdbekdkldjaaDoor

namespace Go.Proofs.YtolgdbekdkldjaaDoor
open Go Go.AM
attribute [local irreducible] AWP CallK PureCall SubS HeapCall
theorem ole2 {H : Heap} {B : List Nat} {U : List (Nat × Nat)} {o o' : AO} (hE : o'.E = o.E) (hg : o'.gen = o.gen) (h3 : o.sz = 2) (hs : o'.sz = 2) (hn : o.n = 1) (hn' : o'.n = 1) (h0 : VLe H B U (o.f 0 0) (o'.f 0 0)) (h1 : VLe H B U (o.f 0 1) (o'.f 0 1)) : OLe H B U o o' :=
  ⟨hE, hg, hs.trans h3.symm, by omega, fun i j hi hj => by
    have hi0 : i = 0 := by omega
    subst hi0
    match j, (show j < 2 by omega) with
    | 0, _ => exact h0
    | 1, _ => exact h1⟩
def bankO (b : BankR) : AO := ⟨33, 0, 2, 1, fun _ j => b.c j⟩
theorem f25 (b : BankR) (hB : BankB b) : PureCall Tryd.prog 25 [b.av] (i64 (checkB b)) := by
  obtain ⟨h1, h2, h3⟩ := hB
  refine PureCall.run tab_ok mixed (by kernel_rfl) Tryd.func25 rfl rfl rfl ?_
  conv => whnf
  repeat (first | ((with_reducible first | apply ga | apply gb | apply gc | apply gd | apply ge | apply gf | apply gg | apply gh | apply gi | apply gj); conv => whnf) | (refine ⟨⟨rfl, rfl, nle rfl, nle rfl⟩, ?_⟩; conv => whnf) | fail)
  refine ⟨fun ha => ?_, fun ha => ?_⟩ <;> replace ha := nm ha <;> (try rw [Int.toNat_zero] at ha) <;> (try rw [Int.toNat_one] at ha)
  · conv => whnf
    repeat (first | ((with_reducible first | apply ga | apply gb | apply gc | apply gd | apply ge | apply gf | apply gg | apply gh | apply gi | apply gj); conv => whnf) | (refine ⟨⟨rfl, rfl, nle rfl, nle rfl⟩, ?_⟩; conv => whnf) | fail)
    refine ⟨fun hb => ?_, fun hb => ?_⟩ <;> replace hb := nm hb <;> (try rw [Int.toNat_zero] at hb) <;> (try rw [Int.toNat_one] at hb)
    · conv => whnf
      repeat (first | ((with_reducible first | apply ga | apply gb | apply gc | apply gd | apply ge | apply gf | apply gg | apply gh | apply gi | apply gj); conv => whnf) | (refine ⟨⟨rfl, rfl, nle rfl, nle rfl⟩, ?_⟩; conv => whnf) | fail)
      have e : checkB b = 3 := by unfold checkB; rw [if_pos (by omega)]
      rw [e]; exact ⟨[], .same⟩
    · conv => whnf
      repeat (first | ((with_reducible first | apply ga | apply gb | apply gc | apply gd | apply ge | apply gf | apply gg | apply gh | apply gi | apply gj); conv => whnf) | (refine ⟨⟨rfl, rfl, nle rfl, nle rfl⟩, ?_⟩; conv => whnf) | fail)
      refine ⟨fun hc => ?_, fun hc => ?_⟩ <;> replace hc := nm hc <;> (try rw [Int.toNat_zero] at hc) <;> (try rw [Int.toNat_one] at hc)
      · conv => whnf
        repeat (first | ((with_reducible first | apply ga | apply gb | apply gc | apply gd | apply ge | apply gf | apply gg | apply gh | apply gi | apply gj); conv => whnf) | (refine ⟨⟨rfl, rfl, nle rfl, nle rfl⟩, ?_⟩; conv => whnf) | fail)
        have e : checkB b = 4 := by unfold checkB; rw [if_neg (by omega), if_pos (by omega)]
        rw [e]; exact ⟨[], .same⟩
      · have e : checkB b = if b.ws.any (fun w => decide (32767 < w)) then 3 else 0 := by unfold checkB; rw [if_neg (by omega), if_neg (by omega)]
        conv => whnf
        repeat (first | ((with_reducible first | apply ga | apply gb | apply gc | apply gd | apply ge | apply gf | apply gg | apply gh | apply gi | apply gj); conv => whnf) | (refine ⟨⟨rfl, rfl, nle rfl, nle rfl⟩, ?_⟩; conv => whnf) | fail)
        refine ex_loop tab_ok mixed (fun i : Nat => i ≤ b.ws.length ∧ b.ws.any (fun w => decide (32767 < w)) = (b.ws.drop i).any (fun w => decide (32767 < w))) (fun i => mkSt 29 [(1, .ptr 1 0 2 0 0), (3, i64 i)] [(1, bankO b)]) (fun i => b.ws.length - i) 0 ⟨Nat.zero_le _, rfl⟩ (SubS.mk [] rfl ⟨⟨_, rfl, .ptr _ _ _ _ _ _ _ _ _ rfl rfl rfl rfl⟩, ⟨_, rfl, .same⟩, trivial⟩ ⟨.inl ⟨_, _, rfl, rfl, rfl, ole2 rfl rfl rfl rfl rfl rfl .same .same⟩, trivial⟩) ?_
        rintro i ⟨hi, hI⟩
        conv => whnf
        repeat (first | ((with_reducible first | apply ga | apply gb | apply gc | apply gd | apply ge | apply gf | apply gg | apply gh | apply gi | apply gj); conv => whnf) | (refine ⟨⟨rfl, rfl, nle rfl, nle rfl⟩, ?_⟩; conv => whnf) | fail)
        refine ⟨fun hl => ?_, fun hl => ?_⟩ <;> replace hl := nm hl <;> (try rw [Int.toNat_zero] at hl) <;> (try rw [Int.toNat_one] at hl)
        · have hlt : i < b.ws.length := by omega
          rw [any_drop hlt] at hI
          conv => whnf
          repeat (first | ((with_reducible first | apply ga | apply gb | apply gc | apply gd | apply ge | apply gf | apply gg | apply gh | apply gi | apply gj); conv => whnf) | (refine ⟨⟨rfl, rfl, nle rfl, nle rfl⟩, ?_⟩; conv => whnf) | fail)
          refine ⟨⟨by omega, by omega, rfl⟩, ?_⟩
          conv => whnf
          repeat (first | ((with_reducible first | apply ga | apply gb | apply gc | apply gd | apply ge | apply gf | apply gg | apply gh | apply gi | apply gj); conv => whnf) | (refine ⟨⟨rfl, rfl, nle rfl, nle rfl⟩, ?_⟩; conv => whnf) | fail)
          refine ⟨⟨by decide⟩, ?_⟩
          conv => whnf
          repeat (first | ((with_reducible first | apply ga | apply gb | apply gc | apply gd | apply ge | apply gf | apply gg | apply gh | apply gi | apply gj); conv => whnf) | (refine ⟨⟨rfl, rfl, nle rfl, nle rfl⟩, ?_⟩; conv => whnf) | fail)
          refine ⟨fun hw => ?_, fun hw => ?_⟩ <;> replace hw := nm hw <;> (try rw [Int.toNat_zero] at hw) <;> (try rw [Int.toNat_one] at hw)
          · rw [hI, show decide (32767 < b.ws.getD i 0) = true from decide_eq_true (by have : (32767 : Int) < (b.ws.getD i 0 : Nat) := hw; omega)] at e
            conv => whnf
            repeat (first | ((with_reducible first | apply ga | apply gb | apply gc | apply gd | apply ge | apply gf | apply gg | apply gh | apply gi | apply gj); conv => whnf) | (refine ⟨⟨rfl, rfl, nle rfl, nle rfl⟩, ?_⟩; conv => whnf) | fail)
            rw [e]; exact ⟨[], .same⟩
          · rw [show decide (32767 < b.ws.getD i 0) = false from decide_eq_false (by have : ((b.ws.getD i 0 : Nat) : Int) ≤ 32767 := hw; omega), Bool.false_or] at hI
            conv => whnf
            repeat (first | ((with_reducible first | apply ga | apply gb | apply gc | apply gd | apply ge | apply gf | apply gg | apply gh | apply gi | apply gj); conv => whnf) | (refine ⟨⟨rfl, rfl, nle rfl, nle rfl⟩, ?_⟩; conv => whnf) | fail)
            refine ⟨⟨by unfold inI64; omega⟩, ?_⟩
            conv => whnf
            repeat (first | ((with_reducible first | apply ga | apply gb | apply gc | apply gd | apply ge | apply gf | apply gg | apply gh | apply gi | apply gj); conv => whnf) | (refine ⟨⟨rfl, rfl, nle rfl, nle rfl⟩, ?_⟩; conv => whnf) | fail)
            exact ⟨i + 1, ⟨by omega, hI⟩, SubS.mk [] rfl ⟨⟨_, rfl, .ptr _ _ _ _ _ _ _ _ _ rfl rfl rfl rfl⟩, ⟨_, rfl, .same⟩, trivial⟩ ⟨.inl ⟨_, _, rfl, rfl, rfl, ole2 rfl rfl rfl rfl rfl rfl .same .same⟩, trivial⟩, by omega⟩
        · rw [List.drop_eq_nil_of_le (by omega), List.any_nil] at hI
          rw [hI] at e
          conv => whnf
          repeat (first | ((with_reducible first | apply ga | apply gb | apply gc | apply gd | apply ge | apply gf | apply gg | apply gh | apply gi | apply gj); conv => whnf) | (refine ⟨⟨rfl, rfl, nle rfl, nle rfl⟩, ?_⟩; conv => whnf) | fail)
          rw [e]; exact ⟨[], .same⟩
  · conv => whnf
    repeat (first | ((with_reducible first | apply ga | apply gb | apply gc | apply gd | apply ge | apply gf | apply gg | apply gh | apply gi | apply gj); conv => whnf) | (refine ⟨⟨rfl, rfl, nle rfl, nle rfl⟩, ?_⟩; conv => whnf) | fail)
    have e : checkB b = 3 := by unfold checkB; rw [if_pos (by omega)]
    rw [e]; exact ⟨[], .same⟩
def XIs : List UInt8 := [88, 73, 78, 68, 69, 88]
def isX (l : Line) : Bool := l.op == XIs
/-- The lines of words, behind an index mark or not. -/
def bl : Bool → List Nat → List Line
  | _, [] => []
  | m, [x] => [oneL (x % 32768) m]
  | m, x :: y :: r => if m = false ∧ x = 6 then oneL (y % 32768) true :: bl (isX (oneL (y % 32768) true)) r else oneL (x % 32768) m :: bl (isX (oneL (x % 32768) m)) (y :: r)
theorem bl_ext {ws : List Nat} {i : Nat} (h1 : i + 1 < ws.length) (hx : ws.getD i 0 = 6) :
    bl false (ws.drop i) = oneL (ws.getD (i + 1) 0 % 32768) true :: bl (isX (oneL (ws.getD (i + 1) 0 % 32768) true)) (ws.drop (i + 2)) := by
  rw [drop_getD (d := 0) (by omega : i < ws.length), drop_getD (d := 0) h1, bl, if_pos ⟨rfl, hx⟩]
theorem bl_one {m : Bool} {ws : List Nat} {i : Nat} (h : i < ws.length) (hx : ¬ (m = false ∧ ws.getD i 0 = 6 ∧ i + 1 < ws.length)) :
    bl m (ws.drop i) = oneL (ws.getD i 0 % 32768) m :: bl (isX (oneL (ws.getD i 0 % 32768) m)) (ws.drop (i + 1)) := by
  rw [drop_getD (d := 0) h]
  by_cases h1 : i + 1 < ws.length
  · rw [drop_getD (d := 0) h1, bl, if_neg (fun hh => hx ⟨hh.1, hh.2, h1⟩)]
  · rw [List.drop_eq_nil_of_le (by omega)]
    rw [bl, bl]
def linesF (ws : List Nat) : AV := .func (.func 37) 0 (fun _ => .nilS) 1 (getL [.rptr 1 fun _ => wordsP ws])
theorem f24 (ws : List Nat) : PureCall Tryd.prog 24 [.pv (wordsP ws)] (linesF ws) := by
  refine PureCall.run tab_ok mixed (by kernel_rfl) Tryd.func24 rfl rfl rfl ?_
  conv => whnf
  repeat (first | ((with_reducible first | apply ga | apply gb | apply gc | apply gd | apply ge | apply gf | apply gg | apply gh | apply gi | apply gj); conv => whnf) | (refine ⟨⟨rfl, rfl, nle rfl, nle rfl⟩, ?_⟩; conv => whnf) | fail)
  refine ⟨[1], .func _ _ _ _ _ _ _ (fun i hi => absurd hi (Nat.not_lt_zero i)) fun i hi => ?_⟩
  match i with
  | 0 => exact .frzp _ _ _ _ _ _ _ _ rfl rfl rfl rfl (Nat.le_refl _) (Nat.le_refl _) fun j _ => .same
def logB (L : List Line) : List (List AV) := L.map fun l => [l.av]
theorem logB_app (L M : List Line) : logB (L ++ M) = logB L ++ logB M := by simp [logB]
def ylv (l : Nat) : AV := .func (.yield l) 0 (fun _ => .nilS) 0 (fun _ => .nilS)
theorem ylv_le {H : Heap} {B : List Nat} {U : List (Nat × Nat)} {l : Nat} : VLe H B U (ylv l) (ylv l) := .func _ _ _ _ _ _ _ (fun i hi => absurd hi (Nat.not_lt_zero i)) (fun i hi => absurd hi (Nat.not_lt_zero i))
def Xs (l : Nat) (B : List Line) (L : List Line) : Ext := ⟨some l, fun p => p <+: logB B, logB L, false, fun _ => none, false⟩
theorem av_eq {f g : Nat → AV} (h : ∀ j, f j = g j) : AV.agg 5 f = .agg 5 g := congrArg _ (funext h)
set_option maxHeartbeats 2000000 in
theorem f37 (ws : List Nat) (hl : ws.length < 2 ^ 46) (hw : ∀ w ∈ ws, w < 65536) : IterCall Tryd.prog 37 [.rptr 1 fun _ => wordsP ws] (fun p => p <+: logB (bl false ws)) (fun p => p = logB (bl false ws)) := by
  have hwd : ∀ i, ws.getD i 0 < 65536 := fun i => by
    by_cases h : i < ws.length
    · rw [List.getD_eq_getElem?_getD, List.getElem?_eq_getElem h]; exact hw _ (List.getElem_mem h)
    · rw [List.getD_eq_getElem?_getD, List.getElem?_eq_none (by omega)]; decide
  refine IterCall.run tab_ok mixed (by kernel_rfl) Tryd.func37 rfl rfl rfl fun l => ?_
  conv => whnf
  repeat (first | ((with_reducible first | apply ga | apply gb | apply gc | apply gd | apply ge | apply gf | apply gg | apply gh | apply gi | apply gj); conv => whnf) | (refine ⟨⟨rfl, rfl, nle rfl, nle rfl⟩, ?_⟩; conv => whnf) | fail)
  refine ex_loop tab_ok mixed (fun x : Nat × Bool × List Line => x.1 ≤ ws.length ∧ x.2.2 ++ bl x.2.1 (ws.drop x.1) = bl false ws) (fun x => mkStX 45 [(0, ylv l), (1, .rptr 1 fun _ => wordsP ws), (3, bb x.2.1), (4, i64 x.1)] [] (Xs l (bl false ws) x.2.2)) (fun x => ws.length - x.1) (0, false, []) ⟨Nat.zero_le _, rfl⟩ (SubS.mkX [] rfl ⟨⟨_, rfl, ylv_le⟩, ⟨_, rfl, .rptr _ _ _ fun i _ => .refl _⟩, ⟨_, rfl, .same⟩, ⟨_, rfl, .same⟩, trivial⟩ trivial ⟨rfl, rfl, rfl, rfl, rfl, fun t v h => by cases h⟩) ?_
  rintro ⟨i, m, L⟩ ⟨hi, hL⟩
  dsimp only at hi hL ⊢
  conv => whnf
  repeat (first | ((with_reducible first | apply ga | apply gb | apply gc | apply gd | apply ge | apply gf | apply gg | apply gh | apply gi | apply gj); conv => whnf) | (refine ⟨⟨rfl, rfl, nle rfl, nle rfl⟩, ?_⟩; conv => whnf) | fail)
  refine ⟨⟨Nat.le_refl _⟩, ?_⟩
  conv => whnf
  repeat (first | ((with_reducible first | apply ga | apply gb | apply gc | apply gd | apply ge | apply gf | apply gg | apply gh | apply gi | apply gj); conv => whnf) | (refine ⟨⟨rfl, rfl, nle rfl, nle rfl⟩, ?_⟩; conv => whnf) | fail)
  refine ⟨fun hc => ?_, fun hc => ?_⟩ <;> replace hc := nm hc <;> (try rw [Int.toNat_zero] at hc) <;> (try rw [Int.toNat_one] at hc)
  · have hlt : i < ws.length := by omega
    conv => whnf
    repeat (first | ((with_reducible first | apply ga | apply gb | apply gc | apply gd | apply ge | apply gf | apply gg | apply gh | apply gi | apply gj); conv => whnf) | (refine ⟨⟨rfl, rfl, nle rfl, nle rfl⟩, ?_⟩; conv => whnf) | fail)
    refine ⟨fun hm => ?_, fun hm => ?_⟩ <;> replace hm := nm hm <;> (try rw [Int.toNat_zero] at hm) <;> (try rw [Int.toNat_one] at hm)
    · have hm' : m = false := by simpa using hm
      subst hm'
      conv => whnf
      repeat (first | ((with_reducible first | apply ga | apply gb | apply gc | apply gd | apply ge | apply gf | apply gg | apply gh | apply gi | apply gj); conv => whnf) | (refine ⟨⟨rfl, rfl, nle rfl, nle rfl⟩, ?_⟩; conv => whnf) | fail)
      refine ⟨⟨Nat.le_refl _⟩, ?_⟩
      conv => whnf
      repeat (first | ((with_reducible first | apply ga | apply gb | apply gc | apply gd | apply ge | apply gf | apply gg | apply gh | apply gi | apply gj); conv => whnf) | (refine ⟨⟨rfl, rfl, nle rfl, nle rfl⟩, ?_⟩; conv => whnf) | fail)
      refine ⟨⟨by omega, by omega, rfl⟩, ?_⟩
      conv => whnf
      repeat (first | ((with_reducible first | apply ga | apply gb | apply gc | apply gd | apply ge | apply gf | apply gg | apply gh | apply gi | apply gj); conv => whnf) | (refine ⟨⟨rfl, rfl, nle rfl, nle rfl⟩, ?_⟩; conv => whnf) | fail)
      refine ⟨⟨by decide⟩, ?_⟩
      conv => whnf
      repeat (first | ((with_reducible first | apply ga | apply gb | apply gc | apply gd | apply ge | apply gf | apply gg | apply gh | apply gi | apply gj); conv => whnf) | (refine ⟨⟨rfl, rfl, nle rfl, nle rfl⟩, ?_⟩; conv => whnf) | fail)
      refine ⟨fun h6 => ?_, fun h6 => ?_⟩ <;> replace h6 := nm h6 <;> (try rw [Int.toNat_zero] at h6) <;> (try rw [Int.toNat_one] at h6)
      · have h6' : ws.getD i 0 = 6 := by have : ((ws.getD i 0 : Nat) : Int) = 6 := h6; omega
        conv => whnf
        repeat (first | ((with_reducible first | apply ga | apply gb | apply gc | apply gd | apply ge | apply gf | apply gg | apply gh | apply gi | apply gj); conv => whnf) | (refine ⟨⟨rfl, rfl, nle rfl, nle rfl⟩, ?_⟩; conv => whnf) | fail)
        refine ⟨⟨by unfold inI64; omega⟩, ?_⟩
        conv => whnf
        repeat (first | ((with_reducible first | apply ga | apply gb | apply gc | apply gd | apply ge | apply gf | apply gg | apply gh | apply gi | apply gj); conv => whnf) | (refine ⟨⟨rfl, rfl, nle rfl, nle rfl⟩, ?_⟩; conv => whnf) | fail)
        refine ⟨⟨Nat.le_refl _⟩, ?_⟩
        conv => whnf
        repeat (first | ((with_reducible first | apply ga | apply gb | apply gc | apply gd | apply ge | apply gf | apply gg | apply gh | apply gi | apply gj); conv => whnf) | (refine ⟨⟨rfl, rfl, nle rfl, nle rfl⟩, ?_⟩; conv => whnf) | fail)
        refine ⟨fun h1 => ?_, fun h1 => ?_⟩ <;> replace h1 := nm h1 <;> (try rw [Int.toNat_zero] at h1) <;> (try rw [Int.toNat_one] at h1)
        · have hst := bl_ext (ws := ws) (i := i) (by omega) h6'
          rw [hst] at hL
          conv => whnf
          repeat (first | ((with_reducible first | apply ga | apply gb | apply gc | apply gd | apply ge | apply gf | apply gg | apply gh | apply gi | apply gj); conv => whnf) | (refine ⟨⟨rfl, rfl, nle rfl, nle rfl⟩, ?_⟩; conv => whnf) | fail)
          refine ⟨⟨by unfold inI64; omega⟩, ?_⟩
          conv => whnf
          repeat (first | ((with_reducible first | apply ga | apply gb | apply gc | apply gd | apply ge | apply gf | apply gg | apply gh | apply gi | apply gj); conv => whnf) | (refine ⟨⟨rfl, rfl, nle rfl, nle rfl⟩, ?_⟩; conv => whnf) | fail)
          refine ⟨⟨Nat.le_refl _⟩, ?_⟩
          conv => whnf
          repeat (first | ((with_reducible first | apply ga | apply gb | apply gc | apply gd | apply ge | apply gf | apply gg | apply gh | apply gi | apply gj); conv => whnf) | (refine ⟨⟨rfl, rfl, nle rfl, nle rfl⟩, ?_⟩; conv => whnf) | fail)
          refine ⟨⟨by omega, by omega, rfl⟩, ?_⟩
          conv => whnf
          repeat (first | ((with_reducible first | apply ga | apply gb | apply gc | apply gd | apply ge | apply gf | apply gg | apply gh | apply gi | apply gj); conv => whnf) | (refine ⟨⟨rfl, rfl, nle rfl, nle rfl⟩, ?_⟩; conv => whnf) | fail)
          refine ⟨⟨by decide⟩, ?_⟩
          conv => whnf
          repeat (first | ((with_reducible first | apply ga | apply gb | apply gc | apply gd | apply ge | apply gf | apply gg | apply gh | apply gi | apply gj); conv => whnf) | (refine ⟨⟨rfl, rfl, nle rfl, nle rfl⟩, ?_⟩; conv => whnf) | fail)
          refine CallK.flat [] (f8 (ws.getD (i + 1) 0) true (hwd _)) ⟨.same, .same, trivial⟩ rfl ?_
          conv => whnf
          repeat (first | ((with_reducible first | apply ga | apply gb | apply gc | apply gd | apply ge | apply gf | apply gg | apply gh | apply gi | apply gj); conv => whnf) | (refine ⟨⟨rfl, rfl, nle rfl, nle rfl⟩, ?_⟩; conv => whnf) | fail)
          refine ⟨⟨rfl, rfl, ?_, rfl⟩, fun stop => ?_⟩
          · show logB L ++ [[_]] <+: logB (bl false ws)
            refine (congrArg (fun v => logB L ++ [[v]] <+: logB (bl false ws)) (av_eq (g := Line.c (oneL (ws.getD (i + 1) 0 % 32768) true)) fun j => ?_)).mpr ?_
            · match j with
              | 0 => rfl
              | 1 => rfl
              | 2 => rfl
              | 3 => rfl
              | 4 => rfl
              | j + 5 => rfl
            · rw [← hL]
              exact ⟨logB (bl (isX (oneL (ws.getD (i + 1) 0 % 32768) true)) (ws.drop (i + 2))), by simp [logB, Line.av]⟩
          conv => whnf
          repeat (first | ((with_reducible first | apply ga | apply gb | apply gc | apply gd | apply ge | apply gf | apply gg | apply gh | apply gi | apply gj); conv => whnf) | (refine ⟨⟨rfl, rfl, nle rfl, nle rfl⟩, ?_⟩; conv => whnf) | fail)
          refine ⟨fun h1 => ?_, fun h1 => ?_⟩
          · conv => whnf
            repeat (first | ((with_reducible first | apply ga | apply gb | apply gc | apply gd | apply ge | apply gf | apply gg | apply gh | apply gi | apply gj); conv => whnf) | (refine ⟨⟨rfl, rfl, nle rfl, nle rfl⟩, ?_⟩; conv => whnf) | fail)
            intro h
            exact absurd (show stop = false from h) (by cases stop <;> simp_all)
          obtain rfl : stop = false := by cases stop <;> simp_all
          conv => whnf
          repeat (first | ((with_reducible first | apply ga | apply gb | apply gc | apply gd | apply ge | apply gf | apply gg | apply gh | apply gi | apply gj); conv => whnf) | (refine ⟨⟨rfl, rfl, nle rfl, nle rfl⟩, ?_⟩; conv => whnf) | fail)
          refine ⟨⟨by unfold inI64; omega⟩, ?_⟩
          conv => whnf
          repeat (first | ((with_reducible first | apply ga | apply gb | apply gc | apply gd | apply ge | apply gf | apply gg | apply gh | apply gi | apply gj); conv => whnf) | (refine ⟨⟨rfl, rfl, nle rfl, nle rfl⟩, ?_⟩; conv => whnf) | fail)
          refine ⟨(i + 2, isX (oneL (ws.getD (i + 1) 0 % 32768) true), L ++ [(oneL (ws.getD (i + 1) 0 % 32768) true)]), ⟨by dsimp only; omega, by dsimp only; rw [← hL, List.append_assoc]; rfl⟩, SubS.mkX [] rfl ⟨⟨_, rfl, ylv_le⟩, ⟨_, rfl, .rptr _ _ _ fun i _ => .refl _⟩, ⟨_, rfl, .same⟩, ⟨_, rfl, .same⟩, trivial⟩ trivial ⟨rfl, rfl, ?_, rfl, rfl, fun t v h => by cases h⟩, by dsimp only; omega⟩
          show logB (L ++ [_]) = logB L ++ [[_]]
          rw [logB_app]
          refine congrArg (fun v => logB L ++ [[v]]) (av_eq (f := Line.c (oneL (ws.getD (i + 1) 0 % 32768) true)) fun j => ?_)
          match j with
          | 0 => rfl
          | 1 => rfl
          | 2 => rfl
          | 3 => rfl
          | 4 => rfl
          | j + 5 => rfl
        · have hst := bl_one (m := false) (ws := ws) (i := i) hlt (fun h => by omega)
          rw [hst] at hL
          conv => whnf
          repeat (first | ((with_reducible first | apply ga | apply gb | apply gc | apply gd | apply ge | apply gf | apply gg | apply gh | apply gi | apply gj); conv => whnf) | (refine ⟨⟨rfl, rfl, nle rfl, nle rfl⟩, ?_⟩; conv => whnf) | fail)
          refine ⟨⟨Nat.le_refl _⟩, ?_⟩
          conv => whnf
          repeat (first | ((with_reducible first | apply ga | apply gb | apply gc | apply gd | apply ge | apply gf | apply gg | apply gh | apply gi | apply gj); conv => whnf) | (refine ⟨⟨rfl, rfl, nle rfl, nle rfl⟩, ?_⟩; conv => whnf) | fail)
          refine ⟨⟨by omega, by omega, rfl⟩, ?_⟩
          conv => whnf
          repeat (first | ((with_reducible first | apply ga | apply gb | apply gc | apply gd | apply ge | apply gf | apply gg | apply gh | apply gi | apply gj); conv => whnf) | (refine ⟨⟨rfl, rfl, nle rfl, nle rfl⟩, ?_⟩; conv => whnf) | fail)
          refine ⟨⟨by decide⟩, ?_⟩
          conv => whnf
          repeat (first | ((with_reducible first | apply ga | apply gb | apply gc | apply gd | apply ge | apply gf | apply gg | apply gh | apply gi | apply gj); conv => whnf) | (refine ⟨⟨rfl, rfl, nle rfl, nle rfl⟩, ?_⟩; conv => whnf) | fail)
          refine CallK.flat [] (f8 (ws.getD (i) 0) false (hwd _)) ⟨.same, .same, trivial⟩ rfl ?_
          conv => whnf
          repeat (first | ((with_reducible first | apply ga | apply gb | apply gc | apply gd | apply ge | apply gf | apply gg | apply gh | apply gi | apply gj); conv => whnf) | (refine ⟨⟨rfl, rfl, nle rfl, nle rfl⟩, ?_⟩; conv => whnf) | fail)
          refine ⟨⟨rfl, rfl, ?_, rfl⟩, fun stop => ?_⟩
          · show logB L ++ [[_]] <+: logB (bl false ws)
            refine (congrArg (fun v => logB L ++ [[v]] <+: logB (bl false ws)) (av_eq (g := Line.c (oneL (ws.getD (i) 0 % 32768) false)) fun j => ?_)).mpr ?_
            · match j with
              | 0 => rfl
              | 1 => rfl
              | 2 => rfl
              | 3 => rfl
              | 4 => rfl
              | j + 5 => rfl
            · rw [← hL]
              exact ⟨logB (bl (isX (oneL (ws.getD (i) 0 % 32768) false)) (ws.drop (i + 1))), by simp [logB, Line.av]⟩
          conv => whnf
          repeat (first | ((with_reducible first | apply ga | apply gb | apply gc | apply gd | apply ge | apply gf | apply gg | apply gh | apply gi | apply gj); conv => whnf) | (refine ⟨⟨rfl, rfl, nle rfl, nle rfl⟩, ?_⟩; conv => whnf) | fail)
          refine ⟨fun h1 => ?_, fun h1 => ?_⟩
          · conv => whnf
            repeat (first | ((with_reducible first | apply ga | apply gb | apply gc | apply gd | apply ge | apply gf | apply gg | apply gh | apply gi | apply gj); conv => whnf) | (refine ⟨⟨rfl, rfl, nle rfl, nle rfl⟩, ?_⟩; conv => whnf) | fail)
            intro h
            exact absurd (show stop = false from h) (by cases stop <;> simp_all)
          obtain rfl : stop = false := by cases stop <;> simp_all
          conv => whnf
          repeat (first | ((with_reducible first | apply ga | apply gb | apply gc | apply gd | apply ge | apply gf | apply gg | apply gh | apply gi | apply gj); conv => whnf) | (refine ⟨⟨rfl, rfl, nle rfl, nle rfl⟩, ?_⟩; conv => whnf) | fail)
          refine ⟨⟨by unfold inI64; omega⟩, ?_⟩
          conv => whnf
          repeat (first | ((with_reducible first | apply ga | apply gb | apply gc | apply gd | apply ge | apply gf | apply gg | apply gh | apply gi | apply gj); conv => whnf) | (refine ⟨⟨rfl, rfl, nle rfl, nle rfl⟩, ?_⟩; conv => whnf) | fail)
          refine ⟨(i + 1, isX (oneL (ws.getD (i) 0 % 32768) false), L ++ [(oneL (ws.getD (i) 0 % 32768) false)]), ⟨by dsimp only; omega, by dsimp only; rw [← hL, List.append_assoc]; rfl⟩, SubS.mkX [] rfl ⟨⟨_, rfl, ylv_le⟩, ⟨_, rfl, .rptr _ _ _ fun i _ => .refl _⟩, ⟨_, rfl, .same⟩, ⟨_, rfl, .same⟩, trivial⟩ trivial ⟨rfl, rfl, ?_, rfl, rfl, fun t v h => by cases h⟩, by dsimp only; omega⟩
          show logB (L ++ [_]) = logB L ++ [[_]]
          rw [logB_app]
          refine congrArg (fun v => logB L ++ [[v]]) (av_eq (f := Line.c (oneL (ws.getD (i) 0 % 32768) false)) fun j => ?_)
          match j with
          | 0 => rfl
          | 1 => rfl
          | 2 => rfl
          | 3 => rfl
          | 4 => rfl
          | j + 5 => rfl
      · have h6' : ws.getD i 0 ≠ 6 := fun h => h6 (by show ((ws.getD i 0 : Nat) : Int) = 6; omega)
        have hst := bl_one (m := false) (ws := ws) (i := i) hlt (fun h => h6' h.2.1)
        rw [hst] at hL
        conv => whnf
        repeat (first | ((with_reducible first | apply ga | apply gb | apply gc | apply gd | apply ge | apply gf | apply gg | apply gh | apply gi | apply gj); conv => whnf) | (refine ⟨⟨rfl, rfl, nle rfl, nle rfl⟩, ?_⟩; conv => whnf) | fail)
        refine ⟨⟨Nat.le_refl _⟩, ?_⟩
        conv => whnf
        repeat (first | ((with_reducible first | apply ga | apply gb | apply gc | apply gd | apply ge | apply gf | apply gg | apply gh | apply gi | apply gj); conv => whnf) | (refine ⟨⟨rfl, rfl, nle rfl, nle rfl⟩, ?_⟩; conv => whnf) | fail)
        refine ⟨⟨by omega, by omega, rfl⟩, ?_⟩
        conv => whnf
        repeat (first | ((with_reducible first | apply ga | apply gb | apply gc | apply gd | apply ge | apply gf | apply gg | apply gh | apply gi | apply gj); conv => whnf) | (refine ⟨⟨rfl, rfl, nle rfl, nle rfl⟩, ?_⟩; conv => whnf) | fail)
        refine ⟨⟨by decide⟩, ?_⟩
        conv => whnf
        repeat (first | ((with_reducible first | apply ga | apply gb | apply gc | apply gd | apply ge | apply gf | apply gg | apply gh | apply gi | apply gj); conv => whnf) | (refine ⟨⟨rfl, rfl, nle rfl, nle rfl⟩, ?_⟩; conv => whnf) | fail)
        refine CallK.flat [] (f8 (ws.getD (i) 0) false (hwd _)) ⟨.same, .same, trivial⟩ rfl ?_
        conv => whnf
        repeat (first | ((with_reducible first | apply ga | apply gb | apply gc | apply gd | apply ge | apply gf | apply gg | apply gh | apply gi | apply gj); conv => whnf) | (refine ⟨⟨rfl, rfl, nle rfl, nle rfl⟩, ?_⟩; conv => whnf) | fail)
        refine ⟨⟨rfl, rfl, ?_, rfl⟩, fun stop => ?_⟩
        · show logB L ++ [[_]] <+: logB (bl false ws)
          refine (congrArg (fun v => logB L ++ [[v]] <+: logB (bl false ws)) (av_eq (g := Line.c (oneL (ws.getD (i) 0 % 32768) false)) fun j => ?_)).mpr ?_
          · match j with
            | 0 => rfl
            | 1 => rfl
            | 2 => rfl
            | 3 => rfl
            | 4 => rfl
            | j + 5 => rfl
          · rw [← hL]
            exact ⟨logB (bl (isX (oneL (ws.getD (i) 0 % 32768) false)) (ws.drop (i + 1))), by simp [logB, Line.av]⟩
        conv => whnf
        repeat (first | ((with_reducible first | apply ga | apply gb | apply gc | apply gd | apply ge | apply gf | apply gg | apply gh | apply gi | apply gj); conv => whnf) | (refine ⟨⟨rfl, rfl, nle rfl, nle rfl⟩, ?_⟩; conv => whnf) | fail)
        refine ⟨fun h1 => ?_, fun h1 => ?_⟩
        · conv => whnf
          repeat (first | ((with_reducible first | apply ga | apply gb | apply gc | apply gd | apply ge | apply gf | apply gg | apply gh | apply gi | apply gj); conv => whnf) | (refine ⟨⟨rfl, rfl, nle rfl, nle rfl⟩, ?_⟩; conv => whnf) | fail)
          intro h
          exact absurd (show stop = false from h) (by cases stop <;> simp_all)
        obtain rfl : stop = false := by cases stop <;> simp_all
        conv => whnf
        repeat (first | ((with_reducible first | apply ga | apply gb | apply gc | apply gd | apply ge | apply gf | apply gg | apply gh | apply gi | apply gj); conv => whnf) | (refine ⟨⟨rfl, rfl, nle rfl, nle rfl⟩, ?_⟩; conv => whnf) | fail)
        refine ⟨⟨by unfold inI64; omega⟩, ?_⟩
        conv => whnf
        repeat (first | ((with_reducible first | apply ga | apply gb | apply gc | apply gd | apply ge | apply gf | apply gg | apply gh | apply gi | apply gj); conv => whnf) | (refine ⟨⟨rfl, rfl, nle rfl, nle rfl⟩, ?_⟩; conv => whnf) | fail)
        refine ⟨(i + 1, isX (oneL (ws.getD (i) 0 % 32768) false), L ++ [(oneL (ws.getD (i) 0 % 32768) false)]), ⟨by dsimp only; omega, by dsimp only; rw [← hL, List.append_assoc]; rfl⟩, SubS.mkX [] rfl ⟨⟨_, rfl, ylv_le⟩, ⟨_, rfl, .rptr _ _ _ fun i _ => .refl _⟩, ⟨_, rfl, .same⟩, ⟨_, rfl, .same⟩, trivial⟩ trivial ⟨rfl, rfl, ?_, rfl, rfl, fun t v h => by cases h⟩, by dsimp only; omega⟩
        show logB (L ++ [_]) = logB L ++ [[_]]
        rw [logB_app]
        refine congrArg (fun v => logB L ++ [[v]]) (av_eq (f := Line.c (oneL (ws.getD (i) 0 % 32768) false)) fun j => ?_)
        match j with
        | 0 => rfl
        | 1 => rfl
        | 2 => rfl
        | 3 => rfl
        | 4 => rfl
        | j + 5 => rfl
    · have hm' : m = true := by simpa using hm
      subst hm'
      have hst := bl_one (m := true) (ws := ws) (i := i) hlt (fun h => by simp at h)
      rw [hst] at hL
      conv => whnf
      repeat (first | ((with_reducible first | apply ga | apply gb | apply gc | apply gd | apply ge | apply gf | apply gg | apply gh | apply gi | apply gj); conv => whnf) | (refine ⟨⟨rfl, rfl, nle rfl, nle rfl⟩, ?_⟩; conv => whnf) | fail)
      refine ⟨⟨Nat.le_refl _⟩, ?_⟩
      conv => whnf
      repeat (first | ((with_reducible first | apply ga | apply gb | apply gc | apply gd | apply ge | apply gf | apply gg | apply gh | apply gi | apply gj); conv => whnf) | (refine ⟨⟨rfl, rfl, nle rfl, nle rfl⟩, ?_⟩; conv => whnf) | fail)
      refine ⟨⟨by omega, by omega, rfl⟩, ?_⟩
      conv => whnf
      repeat (first | ((with_reducible first | apply ga | apply gb | apply gc | apply gd | apply ge | apply gf | apply gg | apply gh | apply gi | apply gj); conv => whnf) | (refine ⟨⟨rfl, rfl, nle rfl, nle rfl⟩, ?_⟩; conv => whnf) | fail)
      refine ⟨⟨by decide⟩, ?_⟩
      conv => whnf
      repeat (first | ((with_reducible first | apply ga | apply gb | apply gc | apply gd | apply ge | apply gf | apply gg | apply gh | apply gi | apply gj); conv => whnf) | (refine ⟨⟨rfl, rfl, nle rfl, nle rfl⟩, ?_⟩; conv => whnf) | fail)
      refine CallK.flat [] (f8 (ws.getD (i) 0) true (hwd _)) ⟨.same, .same, trivial⟩ rfl ?_
      conv => whnf
      repeat (first | ((with_reducible first | apply ga | apply gb | apply gc | apply gd | apply ge | apply gf | apply gg | apply gh | apply gi | apply gj); conv => whnf) | (refine ⟨⟨rfl, rfl, nle rfl, nle rfl⟩, ?_⟩; conv => whnf) | fail)
      refine ⟨⟨rfl, rfl, ?_, rfl⟩, fun stop => ?_⟩
      · show logB L ++ [[_]] <+: logB (bl false ws)
        refine (congrArg (fun v => logB L ++ [[v]] <+: logB (bl false ws)) (av_eq (g := Line.c (oneL (ws.getD (i) 0 % 32768) true)) fun j => ?_)).mpr ?_
        · match j with
          | 0 => rfl
          | 1 => rfl
          | 2 => rfl
          | 3 => rfl
          | 4 => rfl
          | j + 5 => rfl
        · rw [← hL]
          exact ⟨logB (bl (isX (oneL (ws.getD (i) 0 % 32768) true)) (ws.drop (i + 1))), by simp [logB, Line.av]⟩
      conv => whnf
      repeat (first | ((with_reducible first | apply ga | apply gb | apply gc | apply gd | apply ge | apply gf | apply gg | apply gh | apply gi | apply gj); conv => whnf) | (refine ⟨⟨rfl, rfl, nle rfl, nle rfl⟩, ?_⟩; conv => whnf) | fail)
      refine ⟨fun h1 => ?_, fun h1 => ?_⟩
      · conv => whnf
        repeat (first | ((with_reducible first | apply ga | apply gb | apply gc | apply gd | apply ge | apply gf | apply gg | apply gh | apply gi | apply gj); conv => whnf) | (refine ⟨⟨rfl, rfl, nle rfl, nle rfl⟩, ?_⟩; conv => whnf) | fail)
        intro h
        exact absurd (show stop = false from h) (by cases stop <;> simp_all)
      obtain rfl : stop = false := by cases stop <;> simp_all
      conv => whnf
      repeat (first | ((with_reducible first | apply ga | apply gb | apply gc | apply gd | apply ge | apply gf | apply gg | apply gh | apply gi | apply gj); conv => whnf) | (refine ⟨⟨rfl, rfl, nle rfl, nle rfl⟩, ?_⟩; conv => whnf) | fail)
      refine ⟨⟨by unfold inI64; omega⟩, ?_⟩
      conv => whnf
      repeat (first | ((with_reducible first | apply ga | apply gb | apply gc | apply gd | apply ge | apply gf | apply gg | apply gh | apply gi | apply gj); conv => whnf) | (refine ⟨⟨rfl, rfl, nle rfl, nle rfl⟩, ?_⟩; conv => whnf) | fail)
      refine ⟨(i + 1, isX (oneL (ws.getD (i) 0 % 32768) true), L ++ [(oneL (ws.getD (i) 0 % 32768) true)]), ⟨by dsimp only; omega, by dsimp only; rw [← hL, List.append_assoc]; rfl⟩, SubS.mkX [] rfl ⟨⟨_, rfl, ylv_le⟩, ⟨_, rfl, .rptr _ _ _ fun i _ => .refl _⟩, ⟨_, rfl, .same⟩, ⟨_, rfl, .same⟩, trivial⟩ trivial ⟨rfl, rfl, ?_, rfl, rfl, fun t v h => by cases h⟩, by dsimp only; omega⟩
      show logB (L ++ [_]) = logB L ++ [[_]]
      rw [logB_app]
      refine congrArg (fun v => logB L ++ [[v]]) (av_eq (f := Line.c (oneL (ws.getD (i) 0 % 32768) true)) fun j => ?_)
      match j with
      | 0 => rfl
      | 1 => rfl
      | 2 => rfl
      | 3 => rfl
      | 4 => rfl
      | j + 5 => rfl
  · rw [List.drop_eq_nil_of_le (by omega), show bl m [] = [] by cases m <;> rfl, List.append_nil] at hL
    conv => whnf
    repeat (first | ((with_reducible first | apply ga | apply gb | apply gc | apply gd | apply ge | apply gf | apply gg | apply gh | apply gi | apply gj); conv => whnf) | (refine ⟨⟨rfl, rfl, nle rfl, nle rfl⟩, ?_⟩; conv => whnf) | fail)
    intro _
    show logB L = _
    rw [hL]
end Go.Proofs.YtolgdbekdkldjaaDoor

namespace Go.Proofs.YtolgdbekdkldjaaDoor
open Go Go.AM
attribute [local irreducible] AWP CallK PureCall SubS HeapCall
def LOCs : List UInt8 := [76, 79, 67]
def locL (n : Int) : Line := ⟨[], LOCs, ⟨1, [], n⟩⟩
def bankL (b : BankR) : List Line × Int := if checkB b ≠ 0 then ([], checkB b) else (locL (1024 * b.num) :: bl false b.ws, 0)
def bankT (x : List Line × Int) : AV := tupV [.pv (linesP x.1), i64 x.2]
theorem check_ok {b : BankR} (h : checkB b = 0) : (0 ≤ b.num ∧ b.num ≤ 35) ∧ b.ws.length ≤ 1024 ∧ ∀ w ∈ b.ws, w ≤ 32767 := by
  unfold checkB at h
  split at h
  · exact absurd h (by decide)
  · split at h
    · exact absurd h (by decide)
    · split at h
      · exact absurd h (by decide)
      · rename_i h1 h2 h3
        refine ⟨by omega, by omega, fun w hw => ?_⟩
        rcases Nat.lt_or_ge 32767 w with hl | hl
        · exact absurd (List.any_eq_true.mpr ⟨w, hw, decide_eq_true hl⟩) h3
        · exact hl
theorem bl_len : ∀ (ws : List Nat) (m : Bool), (bl m ws).length ≤ ws.length
  | [], m => by cases m <;> simp [bl]
  | [x], m => by simp [bl]
  | x :: y :: r, m => by
    rw [bl]
    split
    · have := bl_len r (isX (oneL (y % 32768) true)); simp only [List.length_cons]; omega
    · have := bl_len (y :: r) (isX (oneL (x % 32768) m)); simp only [List.length_cons] at *; omega
def slotO (k g n : Nat) : AO := ⟨34, 0, 1, 1, fun _ _ => .row k g 5 0 n⟩
def Sk (b : BankR) (L : List Line) (pre : List (List AV)) : ASt := mkSt 27 [(5, .ptr 5 0 1 0 0), (20, linesF b.ws)] [(5, slotO 17 pre.length ((L.take pre.length).length + 1)), (17, rowA 27 5 Line.p lz pre.length (locL (1024 * b.num) :: L.take pre.length))]
theorem valid_lines {pre : List (List AV)} {x : List AV} {F : List Line} (h : pre ++ [x] <+: logB F) : ∃ l, x = [l.av] ∧ F.take (pre.length + 1) = F.take pre.length ++ [l] ∧ pre.length < F.length := by
  obtain ⟨t, ht⟩ := h
  have hl : pre.length < F.length := by
    have := congrArg List.length ht
    simp only [logB, List.length_append, List.length_cons, List.length_nil, List.length_map] at this
    omega
  have hx : (logB F)[pre.length]? = some x := by rw [← ht]; simp
  rw [logB, List.getElem?_map, List.getElem?_eq_getElem hl] at hx
  simp only [Option.map_some, Option.some.injEq] at hx
  exact ⟨F[pre.length], hx.symm, by rw [List.take_add_one, List.getElem?_eq_getElem hl]; rfl, hl⟩
theorem linesF_le {H : Heap} {B : List Nat} {U : List (Nat × Nat)} {t : List Nat} : VLe H B U (linesF t) (linesF t) := .func _ _ _ _ _ _ _ (fun i hi => absurd hi (Nat.not_lt_zero i)) fun i hi => match i, hi with
  | 0, _ => .rptr _ _ _ fun _ _ => .refl _
theorem slot_le {H : Heap} {B : List Nat} {U : List (Nat × Nat)} {k g n : Nat} {o : AO} (hE : o.E = 34) (hg : o.gen = 0) (h3 : o.sz = 1) (hn : o.n = 1) (h0 : VLe H B U (o.f 0 0) (.row k g 5 0 n)) : OLe H B U o (slotO k g n) :=
  ⟨hE.symm, hg.symm, h3.symm, by rw [hn]; exact Nat.le_refl _, fun i j hi hj => by
    have hi0 : i = 0 := by have : i < 1 := hi; omega
    have hj0 : j = 0 := by omega
    subst hi0 hj0
    exact h0⟩
set_option maxHeartbeats 4000000 in
theorem f11 (b : BankR) (hB : BankB b) : PureCall Tryd.prog 11 [b.av] (bankT (bankL b)) := by
  have hB' := hB
  obtain ⟨h1, h2, h3⟩ := hB
  refine PureCall.run tab_ok mixed (by kernel_rfl) Tryd.func11 rfl rfl rfl ?_
  conv => whnf
  repeat (first | ((with_reducible first | apply ga | apply gb | apply gc | apply gd | apply ge | apply gf | apply gg | apply gh | apply gi | apply gj); conv => whnf) | (refine ⟨⟨rfl, rfl, nle rfl, nle rfl⟩, ?_⟩; conv => whnf) | fail)
  refine CallK.flat [] (f23 b hB') ⟨agg2 .same .same, trivial⟩ rfl ?_
  conv => whnf
  repeat (first | ((with_reducible first | apply ga | apply gb | apply gc | apply gd | apply ge | apply gf | apply gg | apply gh | apply gi | apply gj); conv => whnf) | (refine ⟨⟨rfl, rfl, nle rfl, nle rfl⟩, ?_⟩; conv => whnf) | fail)
  refine ⟨fun he => ?_, fun he => ?_⟩ <;> replace he := nm he <;> (try rw [Int.toNat_zero] at he) <;> (try rw [Int.toNat_one] at he)
  · conv => whnf
    repeat (first | ((with_reducible first | apply ga | apply gb | apply gc | apply gd | apply ge | apply gf | apply gg | apply gh | apply gi | apply gj); conv => whnf) | (refine ⟨⟨rfl, rfl, nle rfl, nle rfl⟩, ?_⟩; conv => whnf) | fail)
    have e : bankL b = ([], checkB b) := by unfold bankL; rw [if_pos he]
    rw [e]
    exact done_tup [.pv (linesP []), i64 (checkB b)] [] rfl ⟨VLe.nilA, .same, trivial⟩
  · have e : bankL b = (locL (1024 * b.num) :: bl false b.ws, 0) := by unfold bankL; rw [if_neg (by simpa using he)]
    obtain ⟨k1, k2, k3⟩ := check_ok he
    obtain ⟨L, hL⟩ : ∃ L, bl false b.ws = L := ⟨_, rfl⟩
    have hLl : L.length ≤ 1024 := by have := bl_len b.ws false; rw [hL] at this; omega
    rw [hL] at e
    conv => whnf
    repeat (first | ((with_reducible first | apply ga | apply gb | apply gc | apply gd | apply ge | apply gf | apply gg | apply gh | apply gi | apply gj); conv => whnf) | (refine ⟨⟨rfl, rfl, nle rfl, nle rfl⟩, ?_⟩; conv => whnf) | fail)
    refine ⟨⟨by unfold inI64; omega⟩, ?_⟩
    conv => whnf
    repeat (first | ((with_reducible first | apply ga | apply gb | apply gc | apply gd | apply ge | apply gf | apply gg | apply gh | apply gi | apply gj); conv => whnf) | (refine ⟨⟨rfl, rfl, nle rfl, nle rfl⟩, ?_⟩; conv => whnf) | fail)
    refine CallK.flat [] (f20 (1024 * b.num)) ⟨.same, trivial⟩ rfl ?_
    conv => whnf
    repeat (first | ((with_reducible first | apply ga | apply gb | apply gc | apply gd | apply ge | apply gf | apply gg | apply gh | apply gi | apply gj); conv => whnf) | (refine ⟨⟨rfl, rfl, nle rfl, nle rfl⟩, ?_⟩; conv => whnf) | fail)
    refine CallK.drop [] (f24 b.ws) ⟨.same, trivial⟩ ?_
    conv => whnf
    repeat (first | ((with_reducible first | apply ga | apply gb | apply gc | apply gd | apply ge | apply gf | apply gg | apply gh | apply gi | apply gj); conv => whnf) | (refine ⟨⟨rfl, rfl, nle rfl, nle rfl⟩, ?_⟩; conv => whnf) | fail)
    refine AWP.sub (st' := Sk b L []) (SubS.mk [] rfl ⟨⟨_, rfl, .ptr _ _ _ _ _ _ _ _ _ rfl rfl rfl rfl⟩, ⟨_, rfl, linesF_le⟩, trivial⟩ ⟨.inl ⟨_, _, rfl, rfl, rfl, slot_le rfl rfl rfl rfl (.row _ _ _ _ _ _ _ _ _ rfl rfl rfl rfl)⟩, .inl ⟨_, _, rfl, rfl, rfl, CellsA.row (CellsA.one fun j hj => ?_) rfl rfl rfl⟩, trivial⟩) (awp_range (S := Sk b L) (caps' := [.rptr 1 fun _ => wordsP b.ws]) (fun pre => True) trivial (fun _ => rfl) (fun _ => rfl) rfl rfl (fun k hk => ?_) ?_ ?_ (f37 b.ws (by omega) h3) ?_ ?_)
    · match j, hj with
      | 0, _ => exact .same
      | 1, _ => exact .same
      | 2, _ => exact .same
      | 3, _ => exact .same
      | 4, _ => exact .same
    · match k with
      | 0 => exact .rptr _ _ _ fun _ _ => .refl _
    · intro p hp
      have hp : p = 21 := by simpa using hp
      subst hp
      show 21 < 27; decide
    · intro pre x h
      obtain ⟨p, rfl, _⟩ := valid_lines h
      rfl
    · rintro pre x _ h
      rw [hL] at h
      obtain ⟨l, rfl, hl1, hl2⟩ := valid_lines h
      have hlen : (pre ++ [[l.av]]).length = pre.length + 1 := by simp
      have htl : (L.take pre.length).length = pre.length := by simp; omega
      show AWP _ _ _ (roundSt (Sk b L pre) _ _)
      refine ex_sound tab_ok mixed _ _ _ ?_
      conv => whnf
      repeat (first | ((with_reducible first | apply ga | apply gb | apply gc | apply gd | apply ge | apply gf | apply gg | apply gh | apply gi | apply gj); conv => whnf) | (refine ⟨⟨rfl, rfl, nle rfl, nle rfl⟩, ?_⟩; conv => whnf) | fail)
      refine ex_sound tab_ok mixed _ _ _ ?_
      conv => whnf
      repeat (first | ((with_reducible first | apply ga | apply gb | apply gc | apply gd | apply ge | apply gf | apply gg | apply gh | apply gi | apply gj); conv => whnf) | (refine ⟨⟨rfl, rfl, nle rfl, nle rfl⟩, ?_⟩; conv => whnf) | fail)
      refine ⟨⟨⟨rfl, rfl, rfl, nle rfl⟩, rfl, rfl, rfl, rfl, rfl, rfl, show ((L.take pre.length).length + 1 + 1) * 64 ≤ 140737488355328 by omega⟩, ?_⟩
      conv => whnf
      repeat (first | ((with_reducible first | apply ga | apply gb | apply gc | apply gd | apply ge | apply gf | apply gg | apply gh | apply gi | apply gj); conv => whnf) | (refine ⟨⟨rfl, rfl, nle rfl, nle rfl⟩, ?_⟩; conv => whnf) | fail)
      refine ⟨trivial, ?_⟩
      show SubS _ (Sk b L (pre ++ [[l.av]]))
      unfold Sk
      rw [hlen, hl1]
      refine SubS.mk [] rfl ⟨⟨_, rfl, .ptr _ _ _ _ _ _ _ _ _ rfl rfl rfl rfl⟩, ⟨_, rfl, linesF_le⟩, trivial⟩ ⟨.inl ⟨_, _, rfl, rfl, rfl, slot_le rfl rfl rfl rfl (.row _ _ _ _ _ _ _ _ _ rfl rfl rfl (by simp))⟩, .inl ⟨_, _, rfl, rfl, rfl, ?_⟩, trivial⟩
      rw [← List.cons_append]
      refine OLe.snocA rfl rfl rfl rfl rfl fun j hj => ?_
      match j, hj with
      | 0, _ => exact .same
      | 1, _ => exact .same
      | 2, _ => exact .same
      | 3, _ => exact .same
      | 4, _ => exact .same
    · rintro xs _ hfull
      rw [hL] at hfull
      subst hfull
      have hl : (logB L).length = L.length := by simp [logB]
      show blockQ 0 _ _ (Sk b L (logB L))
      have hS : Sk b L (logB L) = mkSt 27 [(5, .ptr 5 0 1 0 0), (20, linesF b.ws)] [(5, slotO 17 L.length (L.length + 1)), (17, rowA 27 5 Line.p lz L.length (locL (1024 * b.num) :: L))] := by unfold Sk; rw [hl, List.take_length]
      rw [hS, e]
      conv => whnf
      repeat (first | ((with_reducible first | apply ga | apply gb | apply gc | apply gd | apply ge | apply gf | apply gg | apply gh | apply gi | apply gj); conv => whnf) | (refine ⟨⟨rfl, rfl, nle rfl, nle rfl⟩, ?_⟩; conv => whnf) | fail)
      exact done_tup [.pv (linesP (locL (1024 * b.num) :: L)), i64 0] [17] rfl ⟨VLe.frzA rfl rfl rfl, .same, trivial⟩
end Go.Proofs.YtolgdbekdkldjaaDoor

namespace Go.Proofs.YtolgdbekdkldjaaDoor
open Go Go.AM
attribute [local irreducible] AWP CallK PureCall SubS HeapCall
set_option maxHeartbeats 4000000 in
theorem f12 (b : BankR) (hB : BankB b) : PureCall Tryd.prog 12 [b.av] (bankT (bankL b)) := by
  have hB' := hB
  obtain ⟨h1, h2, h3⟩ := hB
  refine PureCall.run tab_ok mixed (by kernel_rfl) Tryd.func12 rfl rfl rfl ?_
  conv => whnf
  repeat (first | ((with_reducible first | apply ga | apply gb | apply gc | apply gd | apply ge | apply gf | apply gg | apply gh | apply gi | apply gj); conv => whnf) | (refine ⟨⟨rfl, rfl, nle rfl, nle rfl⟩, ?_⟩; conv => whnf) | fail)
  refine CallK.flat [] (f25 b hB') ⟨agg2 .same .same, trivial⟩ rfl ?_
  conv => whnf
  repeat (first | ((with_reducible first | apply ga | apply gb | apply gc | apply gd | apply ge | apply gf | apply gg | apply gh | apply gi | apply gj); conv => whnf) | (refine ⟨⟨rfl, rfl, nle rfl, nle rfl⟩, ?_⟩; conv => whnf) | fail)
  refine ⟨fun he => ?_, fun he => ?_⟩ <;> replace he := nm he <;> (try rw [Int.toNat_zero] at he) <;> (try rw [Int.toNat_one] at he)
  · conv => whnf
    repeat (first | ((with_reducible first | apply ga | apply gb | apply gc | apply gd | apply ge | apply gf | apply gg | apply gh | apply gi | apply gj); conv => whnf) | (refine ⟨⟨rfl, rfl, nle rfl, nle rfl⟩, ?_⟩; conv => whnf) | fail)
    have e : bankL b = ([], checkB b) := by unfold bankL; rw [if_pos he]
    rw [e]
    exact done_tup [.pv (linesP []), i64 (checkB b)] [] rfl ⟨VLe.nilA, .same, trivial⟩
  · have e : bankL b = (locL (1024 * b.num) :: bl false b.ws, 0) := by unfold bankL; rw [if_neg (by simpa using he)]
    obtain ⟨k1, k2, k3⟩ := check_ok he
    have hwd : ∀ i, b.ws.getD i 0 < 65536 := fun i => by
      by_cases h : i < b.ws.length
      · rw [List.getD_eq_getElem?_getD, List.getElem?_eq_getElem h]; exact h3 _ (List.getElem_mem h)
      · rw [List.getD_eq_getElem?_getD, List.getElem?_eq_none (by omega)]; decide
    conv => whnf
    repeat (first | ((with_reducible first | apply ga | apply gb | apply gc | apply gd | apply ge | apply gf | apply gg | apply gh | apply gi | apply gj); conv => whnf) | (refine ⟨⟨rfl, rfl, nle rfl, nle rfl⟩, ?_⟩; conv => whnf) | fail)
    refine ⟨⟨by unfold inI64; omega⟩, ?_⟩
    conv => whnf
    repeat (first | ((with_reducible first | apply ga | apply gb | apply gc | apply gd | apply ge | apply gf | apply gg | apply gh | apply gi | apply gj); conv => whnf) | (refine ⟨⟨rfl, rfl, nle rfl, nle rfl⟩, ?_⟩; conv => whnf) | fail)
    refine CallK.flat [] (f22 (1024 * b.num)) ⟨.same, trivial⟩ rfl ?_
    conv => whnf
    repeat (first | ((with_reducible first | apply ga | apply gb | apply gc | apply gd | apply ge | apply gf | apply gg | apply gh | apply gi | apply gj); conv => whnf) | (refine ⟨⟨rfl, rfl, nle rfl, nle rfl⟩, ?_⟩; conv => whnf) | fail)
    refine ex_loop tab_ok mixed (fun x : Nat × Bool × List Line × Nat => (x.1 ≤ b.ws.length ∧ x.2.2.1.length ≤ x.1) ∧ x.2.2.1 ++ bl x.2.1 (b.ws.drop x.1) = bl false b.ws) (fun x => mkSt 64 [(1, .ptr 1 0 2 0 0), (5, .row 20 x.2.2.2 5 0 (x.2.2.1.length + 1)), (6, bb x.2.1), (7, i64 x.1)] [(1, bankO b), (20, rowA 27 5 Line.p lz x.2.2.2 (locL (1024 * b.num) :: x.2.2.1))]) (fun x => b.ws.length - x.1) (0, false, [], 0) ⟨⟨Nat.zero_le _, Nat.zero_le _⟩, rfl⟩ (SubS.mk [] rfl ⟨⟨_, rfl, .ptr _ _ _ _ _ _ _ _ _ rfl rfl rfl rfl⟩, ⟨_, rfl, .row _ _ _ _ _ _ _ _ _ rfl rfl rfl rfl⟩, ⟨_, rfl, .same⟩, ⟨_, rfl, .same⟩, trivial⟩ ⟨.inl ⟨_, _, rfl, rfl, rfl, ole2 rfl rfl rfl rfl rfl rfl .same .same⟩, .inl ⟨_, _, rfl, rfl, rfl, CellsA.row (CellsA.one fun j hj => ?_) rfl rfl rfl⟩, trivial⟩) ?_
    · match j, hj with
      | 0, _ => exact .same
      | 1, _ => exact .same
      | 2, _ => exact .same
      | 3, _ => exact .same
      | 4, _ => exact .same
    rintro ⟨i, m, L, g⟩ ⟨⟨hi, hLi⟩, hL⟩
    dsimp only at hi hLi hL ⊢
    conv => whnf
    repeat (first | ((with_reducible first | apply ga | apply gb | apply gc | apply gd | apply ge | apply gf | apply gg | apply gh | apply gi | apply gj); conv => whnf) | (refine ⟨⟨rfl, rfl, nle rfl, nle rfl⟩, ?_⟩; conv => whnf) | fail)
    refine ⟨fun hc => ?_, fun hc => ?_⟩ <;> replace hc := nm hc <;> (try rw [Int.toNat_zero] at hc) <;> (try rw [Int.toNat_one] at hc)
    · have hlt : i < b.ws.length := by omega
      conv => whnf
      repeat (first | ((with_reducible first | apply ga | apply gb | apply gc | apply gd | apply ge | apply gf | apply gg | apply gh | apply gi | apply gj); conv => whnf) | (refine ⟨⟨rfl, rfl, nle rfl, nle rfl⟩, ?_⟩; conv => whnf) | fail)
      refine ⟨fun hm => ?_, fun hm => ?_⟩ <;> replace hm := nm hm <;> (try rw [Int.toNat_zero] at hm) <;> (try rw [Int.toNat_one] at hm)
      · have hm' : m = false := by simpa using hm
        subst hm'
        conv => whnf
        repeat (first | ((with_reducible first | apply ga | apply gb | apply gc | apply gd | apply ge | apply gf | apply gg | apply gh | apply gi | apply gj); conv => whnf) | (refine ⟨⟨rfl, rfl, nle rfl, nle rfl⟩, ?_⟩; conv => whnf) | fail)
        refine ⟨⟨by omega, by omega, rfl⟩, ?_⟩
        conv => whnf
        repeat (first | ((with_reducible first | apply ga | apply gb | apply gc | apply gd | apply ge | apply gf | apply gg | apply gh | apply gi | apply gj); conv => whnf) | (refine ⟨⟨rfl, rfl, nle rfl, nle rfl⟩, ?_⟩; conv => whnf) | fail)
        refine ⟨⟨by decide⟩, ?_⟩
        conv => whnf
        repeat (first | ((with_reducible first | apply ga | apply gb | apply gc | apply gd | apply ge | apply gf | apply gg | apply gh | apply gi | apply gj); conv => whnf) | (refine ⟨⟨rfl, rfl, nle rfl, nle rfl⟩, ?_⟩; conv => whnf) | fail)
        refine ⟨fun h6 => ?_, fun h6 => ?_⟩ <;> replace h6 := nm h6 <;> (try rw [Int.toNat_zero] at h6) <;> (try rw [Int.toNat_one] at h6)
        · have h6' : b.ws.getD i 0 = 6 := by have : ((b.ws.getD i 0 : Nat) : Int) = 6 := h6; omega
          conv => whnf
          repeat (first | ((with_reducible first | apply ga | apply gb | apply gc | apply gd | apply ge | apply gf | apply gg | apply gh | apply gi | apply gj); conv => whnf) | (refine ⟨⟨rfl, rfl, nle rfl, nle rfl⟩, ?_⟩; conv => whnf) | fail)
          refine ⟨⟨by unfold inI64; omega⟩, ?_⟩
          conv => whnf
          repeat (first | ((with_reducible first | apply ga | apply gb | apply gc | apply gd | apply ge | apply gf | apply gg | apply gh | apply gi | apply gj); conv => whnf) | (refine ⟨⟨rfl, rfl, nle rfl, nle rfl⟩, ?_⟩; conv => whnf) | fail)
          refine ⟨fun h1 => ?_, fun h1 => ?_⟩ <;> replace h1 := nm h1 <;> (try rw [Int.toNat_zero] at h1) <;> (try rw [Int.toNat_one] at h1)
          · have hst := bl_ext (ws := b.ws) (i := i) (by omega) h6'
            rw [hst] at hL
            conv => whnf
            repeat (first | ((with_reducible first | apply ga | apply gb | apply gc | apply gd | apply ge | apply gf | apply gg | apply gh | apply gi | apply gj); conv => whnf) | (refine ⟨⟨rfl, rfl, nle rfl, nle rfl⟩, ?_⟩; conv => whnf) | fail)
            refine ⟨⟨by unfold inI64; omega⟩, ?_⟩
            conv => whnf
            repeat (first | ((with_reducible first | apply ga | apply gb | apply gc | apply gd | apply ge | apply gf | apply gg | apply gh | apply gi | apply gj); conv => whnf) | (refine ⟨⟨rfl, rfl, nle rfl, nle rfl⟩, ?_⟩; conv => whnf) | fail)
            refine ⟨⟨by omega, by omega, rfl⟩, ?_⟩
            conv => whnf
            repeat (first | ((with_reducible first | apply ga | apply gb | apply gc | apply gd | apply ge | apply gf | apply gg | apply gh | apply gi | apply gj); conv => whnf) | (refine ⟨⟨rfl, rfl, nle rfl, nle rfl⟩, ?_⟩; conv => whnf) | fail)
            refine ⟨⟨by decide⟩, ?_⟩
            conv => whnf
            repeat (first | ((with_reducible first | apply ga | apply gb | apply gc | apply gd | apply ge | apply gf | apply gg | apply gh | apply gi | apply gj); conv => whnf) | (refine ⟨⟨rfl, rfl, nle rfl, nle rfl⟩, ?_⟩; conv => whnf) | fail)
            refine CallK.flat [] (f9 (b.ws.getD (i + 1) 0) true (hwd _)) ⟨.same, .same, trivial⟩ rfl ?_
            conv => whnf
            repeat (first | ((with_reducible first | apply ga | apply gb | apply gc | apply gd | apply ge | apply gf | apply gg | apply gh | apply gi | apply gj); conv => whnf) | (refine ⟨⟨rfl, rfl, nle rfl, nle rfl⟩, ?_⟩; conv => whnf) | fail)
            refine ⟨⟨⟨rfl, rfl, rfl, nle rfl⟩, rfl, rfl, rfl, rfl, rfl, rfl, show (L.length + 1 + 1) * 64 ≤ 140737488355328 by omega⟩, ?_⟩
            conv => whnf
            repeat (first | ((with_reducible first | apply ga | apply gb | apply gc | apply gd | apply ge | apply gf | apply gg | apply gh | apply gi | apply gj); conv => whnf) | (refine ⟨⟨rfl, rfl, nle rfl, nle rfl⟩, ?_⟩; conv => whnf) | fail)
            refine ⟨⟨by unfold inI64; omega⟩, ?_⟩
            conv => whnf
            repeat (first | ((with_reducible first | apply ga | apply gb | apply gc | apply gd | apply ge | apply gf | apply gg | apply gh | apply gi | apply gj); conv => whnf) | (refine ⟨⟨rfl, rfl, nle rfl, nle rfl⟩, ?_⟩; conv => whnf) | fail)
            refine ⟨(i + 2, isX (oneL (b.ws.getD (i + 1) 0 % 32768) true), L ++ [(oneL (b.ws.getD (i + 1) 0 % 32768) true)], g + 1), ⟨⟨by dsimp only; omega, by dsimp only; rw [List.length_append, List.length_singleton]; omega⟩, by dsimp only; rw [← hL, List.append_assoc]; rfl⟩, SubS.mkN [] [(1, 1), (20, 20)] rfl rfl rfl ⟨⟨_, rfl, .ptr _ _ _ _ _ _ _ _ _ rfl rfl rfl rfl⟩, ⟨_, rfl, .row _ _ _ _ _ _ _ _ _ rfl rfl rfl (by simp)⟩, ⟨_, rfl, .same⟩, ⟨_, rfl, .same⟩, trivial⟩ ⟨.inl ⟨_, _, rfl, rfl, rfl, ole2 rfl rfl rfl rfl rfl rfl .same .same⟩, .inl ⟨_, _, rfl, rfl, rfl, ?_⟩, trivial⟩, by dsimp only; omega⟩
            rw [← List.cons_append]
            refine OLe.snocA rfl rfl rfl rfl rfl fun j hj => ?_
            match j, hj with
            | 0, _ => exact .same
            | 1, _ => exact .same
            | 2, _ => exact .same
            | 3, _ => exact .same
            | 4, _ => exact .same
          · have hst := bl_one (m := false) (ws := b.ws) (i := i) hlt (fun h => by omega)
            rw [hst] at hL
            conv => whnf
            repeat (first | ((with_reducible first | apply ga | apply gb | apply gc | apply gd | apply ge | apply gf | apply gg | apply gh | apply gi | apply gj); conv => whnf) | (refine ⟨⟨rfl, rfl, nle rfl, nle rfl⟩, ?_⟩; conv => whnf) | fail)
            refine ⟨⟨by omega, by omega, rfl⟩, ?_⟩
            conv => whnf
            repeat (first | ((with_reducible first | apply ga | apply gb | apply gc | apply gd | apply ge | apply gf | apply gg | apply gh | apply gi | apply gj); conv => whnf) | (refine ⟨⟨rfl, rfl, nle rfl, nle rfl⟩, ?_⟩; conv => whnf) | fail)
            refine ⟨⟨by decide⟩, ?_⟩
            conv => whnf
            repeat (first | ((with_reducible first | apply ga | apply gb | apply gc | apply gd | apply ge | apply gf | apply gg | apply gh | apply gi | apply gj); conv => whnf) | (refine ⟨⟨rfl, rfl, nle rfl, nle rfl⟩, ?_⟩; conv => whnf) | fail)
            refine CallK.flat [] (f9 (b.ws.getD (i) 0) false (hwd _)) ⟨.same, .same, trivial⟩ rfl ?_
            conv => whnf
            repeat (first | ((with_reducible first | apply ga | apply gb | apply gc | apply gd | apply ge | apply gf | apply gg | apply gh | apply gi | apply gj); conv => whnf) | (refine ⟨⟨rfl, rfl, nle rfl, nle rfl⟩, ?_⟩; conv => whnf) | fail)
            refine ⟨⟨⟨rfl, rfl, rfl, nle rfl⟩, rfl, rfl, rfl, rfl, rfl, rfl, show (L.length + 1 + 1) * 64 ≤ 140737488355328 by omega⟩, ?_⟩
            conv => whnf
            repeat (first | ((with_reducible first | apply ga | apply gb | apply gc | apply gd | apply ge | apply gf | apply gg | apply gh | apply gi | apply gj); conv => whnf) | (refine ⟨⟨rfl, rfl, nle rfl, nle rfl⟩, ?_⟩; conv => whnf) | fail)
            refine ⟨⟨by unfold inI64; omega⟩, ?_⟩
            conv => whnf
            repeat (first | ((with_reducible first | apply ga | apply gb | apply gc | apply gd | apply ge | apply gf | apply gg | apply gh | apply gi | apply gj); conv => whnf) | (refine ⟨⟨rfl, rfl, nle rfl, nle rfl⟩, ?_⟩; conv => whnf) | fail)
            refine ⟨(i + 1, isX (oneL (b.ws.getD (i) 0 % 32768) false), L ++ [(oneL (b.ws.getD (i) 0 % 32768) false)], g + 1), ⟨⟨by dsimp only; omega, by dsimp only; rw [List.length_append, List.length_singleton]; omega⟩, by dsimp only; rw [← hL, List.append_assoc]; rfl⟩, SubS.mkN [] [(1, 1), (20, 20)] rfl rfl rfl ⟨⟨_, rfl, .ptr _ _ _ _ _ _ _ _ _ rfl rfl rfl rfl⟩, ⟨_, rfl, .row _ _ _ _ _ _ _ _ _ rfl rfl rfl (by simp)⟩, ⟨_, rfl, .same⟩, ⟨_, rfl, .same⟩, trivial⟩ ⟨.inl ⟨_, _, rfl, rfl, rfl, ole2 rfl rfl rfl rfl rfl rfl .same .same⟩, .inl ⟨_, _, rfl, rfl, rfl, ?_⟩, trivial⟩, by dsimp only; omega⟩
            rw [← List.cons_append]
            refine OLe.snocA rfl rfl rfl rfl rfl fun j hj => ?_
            match j, hj with
            | 0, _ => exact .same
            | 1, _ => exact .same
            | 2, _ => exact .same
            | 3, _ => exact .same
            | 4, _ => exact .same
        · have h6' : b.ws.getD i 0 ≠ 6 := fun h => h6 (by show ((b.ws.getD i 0 : Nat) : Int) = 6; omega)
          have hst := bl_one (m := false) (ws := b.ws) (i := i) hlt (fun h => h6' h.2.1)
          rw [hst] at hL
          conv => whnf
          repeat (first | ((with_reducible first | apply ga | apply gb | apply gc | apply gd | apply ge | apply gf | apply gg | apply gh | apply gi | apply gj); conv => whnf) | (refine ⟨⟨rfl, rfl, nle rfl, nle rfl⟩, ?_⟩; conv => whnf) | fail)
          refine ⟨⟨by omega, by omega, rfl⟩, ?_⟩
          conv => whnf
          repeat (first | ((with_reducible first | apply ga | apply gb | apply gc | apply gd | apply ge | apply gf | apply gg | apply gh | apply gi | apply gj); conv => whnf) | (refine ⟨⟨rfl, rfl, nle rfl, nle rfl⟩, ?_⟩; conv => whnf) | fail)
          refine ⟨⟨by decide⟩, ?_⟩
          conv => whnf
          repeat (first | ((with_reducible first | apply ga | apply gb | apply gc | apply gd | apply ge | apply gf | apply gg | apply gh | apply gi | apply gj); conv => whnf) | (refine ⟨⟨rfl, rfl, nle rfl, nle rfl⟩, ?_⟩; conv => whnf) | fail)
          refine CallK.flat [] (f9 (b.ws.getD (i) 0) false (hwd _)) ⟨.same, .same, trivial⟩ rfl ?_
          conv => whnf
          repeat (first | ((with_reducible first | apply ga | apply gb | apply gc | apply gd | apply ge | apply gf | apply gg | apply gh | apply gi | apply gj); conv => whnf) | (refine ⟨⟨rfl, rfl, nle rfl, nle rfl⟩, ?_⟩; conv => whnf) | fail)
          refine ⟨⟨⟨rfl, rfl, rfl, nle rfl⟩, rfl, rfl, rfl, rfl, rfl, rfl, show (L.length + 1 + 1) * 64 ≤ 140737488355328 by omega⟩, ?_⟩
          conv => whnf
          repeat (first | ((with_reducible first | apply ga | apply gb | apply gc | apply gd | apply ge | apply gf | apply gg | apply gh | apply gi | apply gj); conv => whnf) | (refine ⟨⟨rfl, rfl, nle rfl, nle rfl⟩, ?_⟩; conv => whnf) | fail)
          refine ⟨⟨by unfold inI64; omega⟩, ?_⟩
          conv => whnf
          repeat (first | ((with_reducible first | apply ga | apply gb | apply gc | apply gd | apply ge | apply gf | apply gg | apply gh | apply gi | apply gj); conv => whnf) | (refine ⟨⟨rfl, rfl, nle rfl, nle rfl⟩, ?_⟩; conv => whnf) | fail)
          refine ⟨(i + 1, isX (oneL (b.ws.getD (i) 0 % 32768) false), L ++ [(oneL (b.ws.getD (i) 0 % 32768) false)], g + 1), ⟨⟨by dsimp only; omega, by dsimp only; rw [List.length_append, List.length_singleton]; omega⟩, by dsimp only; rw [← hL, List.append_assoc]; rfl⟩, SubS.mkN [] [(1, 1), (20, 20)] rfl rfl rfl ⟨⟨_, rfl, .ptr _ _ _ _ _ _ _ _ _ rfl rfl rfl rfl⟩, ⟨_, rfl, .row _ _ _ _ _ _ _ _ _ rfl rfl rfl (by simp)⟩, ⟨_, rfl, .same⟩, ⟨_, rfl, .same⟩, trivial⟩ ⟨.inl ⟨_, _, rfl, rfl, rfl, ole2 rfl rfl rfl rfl rfl rfl .same .same⟩, .inl ⟨_, _, rfl, rfl, rfl, ?_⟩, trivial⟩, by dsimp only; omega⟩
          rw [← List.cons_append]
          refine OLe.snocA rfl rfl rfl rfl rfl fun j hj => ?_
          match j, hj with
          | 0, _ => exact .same
          | 1, _ => exact .same
          | 2, _ => exact .same
          | 3, _ => exact .same
          | 4, _ => exact .same
      · have hm' : m = true := by simpa using hm
        subst hm'
        have hst := bl_one (m := true) (ws := b.ws) (i := i) hlt (fun h => by simp at h)
        rw [hst] at hL
        conv => whnf
        repeat (first | ((with_reducible first | apply ga | apply gb | apply gc | apply gd | apply ge | apply gf | apply gg | apply gh | apply gi | apply gj); conv => whnf) | (refine ⟨⟨rfl, rfl, nle rfl, nle rfl⟩, ?_⟩; conv => whnf) | fail)
        refine ⟨⟨by omega, by omega, rfl⟩, ?_⟩
        conv => whnf
        repeat (first | ((with_reducible first | apply ga | apply gb | apply gc | apply gd | apply ge | apply gf | apply gg | apply gh | apply gi | apply gj); conv => whnf) | (refine ⟨⟨rfl, rfl, nle rfl, nle rfl⟩, ?_⟩; conv => whnf) | fail)
        refine ⟨⟨by decide⟩, ?_⟩
        conv => whnf
        repeat (first | ((with_reducible first | apply ga | apply gb | apply gc | apply gd | apply ge | apply gf | apply gg | apply gh | apply gi | apply gj); conv => whnf) | (refine ⟨⟨rfl, rfl, nle rfl, nle rfl⟩, ?_⟩; conv => whnf) | fail)
        refine CallK.flat [] (f9 (b.ws.getD (i) 0) true (hwd _)) ⟨.same, .same, trivial⟩ rfl ?_
        conv => whnf
        repeat (first | ((with_reducible first | apply ga | apply gb | apply gc | apply gd | apply ge | apply gf | apply gg | apply gh | apply gi | apply gj); conv => whnf) | (refine ⟨⟨rfl, rfl, nle rfl, nle rfl⟩, ?_⟩; conv => whnf) | fail)
        refine ⟨⟨⟨rfl, rfl, rfl, nle rfl⟩, rfl, rfl, rfl, rfl, rfl, rfl, show (L.length + 1 + 1) * 64 ≤ 140737488355328 by omega⟩, ?_⟩
        conv => whnf
        repeat (first | ((with_reducible first | apply ga | apply gb | apply gc | apply gd | apply ge | apply gf | apply gg | apply gh | apply gi | apply gj); conv => whnf) | (refine ⟨⟨rfl, rfl, nle rfl, nle rfl⟩, ?_⟩; conv => whnf) | fail)
        refine ⟨⟨by unfold inI64; omega⟩, ?_⟩
        conv => whnf
        repeat (first | ((with_reducible first | apply ga | apply gb | apply gc | apply gd | apply ge | apply gf | apply gg | apply gh | apply gi | apply gj); conv => whnf) | (refine ⟨⟨rfl, rfl, nle rfl, nle rfl⟩, ?_⟩; conv => whnf) | fail)
        refine ⟨(i + 1, isX (oneL (b.ws.getD (i) 0 % 32768) true), L ++ [(oneL (b.ws.getD (i) 0 % 32768) true)], g + 1), ⟨⟨by dsimp only; omega, by dsimp only; rw [List.length_append, List.length_singleton]; omega⟩, by dsimp only; rw [← hL, List.append_assoc]; rfl⟩, SubS.mkN [] [(1, 1), (20, 20)] rfl rfl rfl ⟨⟨_, rfl, .ptr _ _ _ _ _ _ _ _ _ rfl rfl rfl rfl⟩, ⟨_, rfl, .row _ _ _ _ _ _ _ _ _ rfl rfl rfl (by simp)⟩, ⟨_, rfl, .same⟩, ⟨_, rfl, .same⟩, trivial⟩ ⟨.inl ⟨_, _, rfl, rfl, rfl, ole2 rfl rfl rfl rfl rfl rfl .same .same⟩, .inl ⟨_, _, rfl, rfl, rfl, ?_⟩, trivial⟩, by dsimp only; omega⟩
        rw [← List.cons_append]
        refine OLe.snocA rfl rfl rfl rfl rfl fun j hj => ?_
        match j, hj with
        | 0, _ => exact .same
        | 1, _ => exact .same
        | 2, _ => exact .same
        | 3, _ => exact .same
        | 4, _ => exact .same
    · rw [List.drop_eq_nil_of_le (by omega), show bl m [] = [] by cases m <;> rfl, List.append_nil] at hL
      conv => whnf
      repeat (first | ((with_reducible first | apply ga | apply gb | apply gc | apply gd | apply ge | apply gf | apply gg | apply gh | apply gi | apply gj); conv => whnf) | (refine ⟨⟨rfl, rfl, nle rfl, nle rfl⟩, ?_⟩; conv => whnf) | fail)
      rw [e, ← hL]
      exact done_tup [.pv (linesP (locL (1024 * b.num) :: L)), i64 0] [20] rfl ⟨VLe.frzA rfl rfl rfl, .same, trivial⟩
end Go.Proofs.YtolgdbekdkldjaaDoor
