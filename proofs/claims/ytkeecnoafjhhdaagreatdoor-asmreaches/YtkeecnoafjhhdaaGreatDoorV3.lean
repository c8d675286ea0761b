/- Part of the proof: what the functions that the law calls compute. -/
import Derived.Test.YtkeecnoafjhhdaaGreatDoorV2
namespace Go.Proofs.YtkeecnoafjhhdaaGreatDoor
open Go Go.AM
attribute [local irreducible] AWP CallK PureCall SubS HeapCallK
theorem valS0 {n : Int} : valS 0 n = decide (-65535 ≤ n ∧ n ≤ 65535) := by unfold valS; rw [if_neg (by decide), if_neg (by decide)]
theorem f29_10 (y : Sym) (e : y.sp = 0) (o eb fb : Int) : PureCall Tryz.prog 29 [y.av, i64 o, u8 (1 : Nat), i64 eb, i64 fb] (rsT (reachF y o 1 eb fb)) := by
 have hs0 : (((y.sp : Nat) : Int) == 0) = true := by rw [e]; rfl
 have hs1 : (((y.sp : Nat) : Int) == 1) = false := by rw [e]; rfl
 have hs2 : (((y.sp : Nat) : Int) == 2) = false := by rw [e]; rfl
 have hkb : kindB ((1 : Nat) : Int) ((y.sp : Nat) : Int) = true := by rw [e]; rfl
 have hn0 : (!(((y.sp : Nat) : Int) == 0)) = false := by rw [hs0]; rfl
 have hn1 : (!(((y.sp : Nat) : Int) == 1)) = true := by rw [hs1]; rfl
 have hn2 : (!(((y.sp : Nat) : Int) == 2)) = true := by rw [hs2]; rfl
 have hnk : (!kindB ((1 : Nat) : Int) ((y.sp : Nat) : Int)) = false := by rw [hkb]; rfl
 refine pr (by kernel_rfl) Tryz.func29 rfl rfl rfl ?_
 refine W0 ?_
 repeat' (first | ((first | refine au ?_ | refine c0f (f58 _ _) ⟨.same, .same, trivial⟩ rfl ?_ | refine c0f (f59 _ _ _) ⟨.same, .same, .same, trivial⟩ rfl ?_ | refine c0f (f60 _ _ _ _) ⟨.same, .same, .same, .same, trivial⟩ rfl ?_ | refine c0f (xk52 0 [] false 0 0 1 (by decide)) ⟨opG_le .same .same .same .same .same .same, trivial⟩ rfl ?_ | fail); conv => whnf) | (refine W1 ?_) | ((first | refine af hs0 ?_ | refine ag hs0 ?_ | refine af hs1 ?_ | refine ag hs1 ?_ | refine af hs2 ?_ | refine ag hs2 ?_ | refine af hkb ?_ | refine ag hkb ?_ | refine af hn0 ?_ | refine ag hn0 ?_ | refine af hn1 ?_ | refine ag hn1 ?_ | refine af hn2 ?_ | refine ag hn2 ?_ | refine af hnk ?_ | refine ag hnk ?_ | refine an (by decide) ?_ | refine na (by decide) ?_ | refine ⟨⟨by have h1 := (by assumption : -65535 ≤ y.ad ∧ y.ad ≤ 65535); have h2 := (by assumption : -65535 ≤ o ∧ o ≤ 65535); show inI64 (y.ad + o); unfold inI64; omega⟩, ?_⟩ | fail); conv => whnf) | (refine And.intro ?_ ?_ <;> intro hc <;> replace hc := nm hc <;> (conv => whnf)))
 all_goals refine rsE ?_ (by rfl) (by rfl)
 all_goals unfold reachF
 all_goals simp only [lst, mst, e, valS0] at *
 all_goals simp [*]
 all_goals omega
theorem f29_11 (y : Sym) (e : y.sp = 1) (o eb fb : Int) : PureCall Tryz.prog 29 [y.av, i64 o, u8 (1 : Nat), i64 eb, i64 fb] (rsT (reachF y o 1 eb fb)) := by
 have hs0 : (((y.sp : Nat) : Int) == 0) = false := by rw [e]; rfl
 have hs1 : (((y.sp : Nat) : Int) == 1) = true := by rw [e]; rfl
 have hs2 : (((y.sp : Nat) : Int) == 2) = false := by rw [e]; rfl
 have hkb : kindB ((1 : Nat) : Int) ((y.sp : Nat) : Int) = true := by rw [e]; rfl
 have hn0 : (!(((y.sp : Nat) : Int) == 0)) = true := by rw [hs0]; rfl
 have hn1 : (!(((y.sp : Nat) : Int) == 1)) = false := by rw [hs1]; rfl
 have hn2 : (!(((y.sp : Nat) : Int) == 2)) = true := by rw [hs2]; rfl
 have hnk : (!kindB ((1 : Nat) : Int) ((y.sp : Nat) : Int)) = false := by rw [hkb]; rfl
 refine pr (by kernel_rfl) Tryz.func29 rfl rfl rfl ?_
 refine W0 ?_
 repeat' (first | ((first | refine au ?_ | refine c0f (f58 _ _) ⟨.same, .same, trivial⟩ rfl ?_ | refine c0f (f59 _ _ _) ⟨.same, .same, .same, trivial⟩ rfl ?_ | refine c0f (f60 _ _ _ _) ⟨.same, .same, .same, .same, trivial⟩ rfl ?_ | refine c0f (xk52 0 [] false 0 0 1 (by decide)) ⟨opG_le .same .same .same .same .same .same, trivial⟩ rfl ?_ | fail); conv => whnf) | (refine W1 ?_) | ((first | refine af hs0 ?_ | refine ag hs0 ?_ | refine af hs1 ?_ | refine ag hs1 ?_ | refine af hs2 ?_ | refine ag hs2 ?_ | refine af hkb ?_ | refine ag hkb ?_ | refine af hn0 ?_ | refine ag hn0 ?_ | refine af hn1 ?_ | refine ag hn1 ?_ | refine af hn2 ?_ | refine ag hn2 ?_ | refine af hnk ?_ | refine ag hnk ?_ | refine an (by decide) ?_ | refine na (by decide) ?_ | refine ⟨⟨by have h1 := (by assumption : -65535 ≤ y.ad ∧ y.ad ≤ 65535); have h2 := (by assumption : -65535 ≤ o ∧ o ≤ 65535); show inI64 (y.ad + o); unfold inI64; omega⟩, ?_⟩ | fail); conv => whnf) | (refine And.intro ?_ ?_ <;> intro hc <;> replace hc := nm hc <;> (conv => whnf)))
 all_goals refine rsE ?_ (by rfl) (by rfl)
 all_goals unfold reachF
 all_goals simp only [lst, mst, e, valS0] at *
 all_goals simp [*]
 all_goals omega
theorem f29_12 (y : Sym) (e : y.sp = 2) (o eb fb : Int) : PureCall Tryz.prog 29 [y.av, i64 o, u8 (1 : Nat), i64 eb, i64 fb] (rsT (reachF y o 1 eb fb)) := by
 have hs0 : (((y.sp : Nat) : Int) == 0) = false := by rw [e]; rfl
 have hs1 : (((y.sp : Nat) : Int) == 1) = false := by rw [e]; rfl
 have hs2 : (((y.sp : Nat) : Int) == 2) = true := by rw [e]; rfl
 have hkb : kindB ((1 : Nat) : Int) ((y.sp : Nat) : Int) = false := by rw [e]; rfl
 have hn0 : (!(((y.sp : Nat) : Int) == 0)) = true := by rw [hs0]; rfl
 have hn1 : (!(((y.sp : Nat) : Int) == 1)) = true := by rw [hs1]; rfl
 have hn2 : (!(((y.sp : Nat) : Int) == 2)) = false := by rw [hs2]; rfl
 have hnk : (!kindB ((1 : Nat) : Int) ((y.sp : Nat) : Int)) = true := by rw [hkb]; rfl
 refine pr (by kernel_rfl) Tryz.func29 rfl rfl rfl ?_
 refine W0 ?_
 repeat' (first | ((first | refine au ?_ | refine c0f (f58 _ _) ⟨.same, .same, trivial⟩ rfl ?_ | refine c0f (f59 _ _ _) ⟨.same, .same, .same, trivial⟩ rfl ?_ | refine c0f (f60 _ _ _ _) ⟨.same, .same, .same, .same, trivial⟩ rfl ?_ | refine c0f (xk52 0 [] false 0 0 1 (by decide)) ⟨opG_le .same .same .same .same .same .same, trivial⟩ rfl ?_ | fail); conv => whnf) | (refine W1 ?_) | ((first | refine af hs0 ?_ | refine ag hs0 ?_ | refine af hs1 ?_ | refine ag hs1 ?_ | refine af hs2 ?_ | refine ag hs2 ?_ | refine af hkb ?_ | refine ag hkb ?_ | refine af hn0 ?_ | refine ag hn0 ?_ | refine af hn1 ?_ | refine ag hn1 ?_ | refine af hn2 ?_ | refine ag hn2 ?_ | refine af hnk ?_ | refine ag hnk ?_ | refine an (by decide) ?_ | refine na (by decide) ?_ | refine ⟨⟨by have h1 := (by assumption : -65535 ≤ y.ad ∧ y.ad ≤ 65535); have h2 := (by assumption : -65535 ≤ o ∧ o ≤ 65535); show inI64 (y.ad + o); unfold inI64; omega⟩, ?_⟩ | fail); conv => whnf) | (refine And.intro ?_ ?_ <;> intro hc <;> replace hc := nm hc <;> (conv => whnf)))
 all_goals refine rsE ?_ (by rfl) (by rfl)
 all_goals unfold reachF
 all_goals simp only [lst, mst, e, valS0] at *
 all_goals simp [*]
 all_goals omega
theorem f29_20 (y : Sym) (e : y.sp = 0) (o eb fb : Int) : PureCall Tryz.prog 29 [y.av, i64 o, u8 (2 : Nat), i64 eb, i64 fb] (rsT (reachF y o 2 eb fb)) := by
 have hs0 : (((y.sp : Nat) : Int) == 0) = true := by rw [e]; rfl
 have hs1 : (((y.sp : Nat) : Int) == 1) = false := by rw [e]; rfl
 have hs2 : (((y.sp : Nat) : Int) == 2) = false := by rw [e]; rfl
 have hkb : kindB ((2 : Nat) : Int) ((y.sp : Nat) : Int) = true := by rw [e]; rfl
 have hn0 : (!(((y.sp : Nat) : Int) == 0)) = false := by rw [hs0]; rfl
 have hn1 : (!(((y.sp : Nat) : Int) == 1)) = true := by rw [hs1]; rfl
 have hn2 : (!(((y.sp : Nat) : Int) == 2)) = true := by rw [hs2]; rfl
 have hnk : (!kindB ((2 : Nat) : Int) ((y.sp : Nat) : Int)) = false := by rw [hkb]; rfl
 refine pr (by kernel_rfl) Tryz.func29 rfl rfl rfl ?_
 refine W0 ?_
 repeat' (first | ((first | refine au ?_ | refine c0f (f58 _ _) ⟨.same, .same, trivial⟩ rfl ?_ | refine c0f (f59 _ _ _) ⟨.same, .same, .same, trivial⟩ rfl ?_ | refine c0f (f60 _ _ _ _) ⟨.same, .same, .same, .same, trivial⟩ rfl ?_ | refine c0f (xk52 0 [] false 0 0 2 (by decide)) ⟨opG_le .same .same .same .same .same .same, trivial⟩ rfl ?_ | fail); conv => whnf) | (refine W1 ?_) | ((first | refine af hs0 ?_ | refine ag hs0 ?_ | refine af hs1 ?_ | refine ag hs1 ?_ | refine af hs2 ?_ | refine ag hs2 ?_ | refine af hkb ?_ | refine ag hkb ?_ | refine af hn0 ?_ | refine ag hn0 ?_ | refine af hn1 ?_ | refine ag hn1 ?_ | refine af hn2 ?_ | refine ag hn2 ?_ | refine af hnk ?_ | refine ag hnk ?_ | refine an (by decide) ?_ | refine na (by decide) ?_ | refine ⟨⟨by have h1 := (by assumption : -65535 ≤ y.ad ∧ y.ad ≤ 65535); have h2 := (by assumption : -65535 ≤ o ∧ o ≤ 65535); show inI64 (y.ad + o); unfold inI64; omega⟩, ?_⟩ | fail); conv => whnf) | (refine And.intro ?_ ?_ <;> intro hc <;> replace hc := nm hc <;> (conv => whnf)))
 all_goals refine rsE ?_ (by rfl) (by rfl)
 all_goals unfold reachF
 all_goals simp only [lst, mst, e, valS0] at *
 all_goals simp [*]
 all_goals omega
theorem f29_21 (y : Sym) (e : y.sp = 1) (o eb fb : Int) : PureCall Tryz.prog 29 [y.av, i64 o, u8 (2 : Nat), i64 eb, i64 fb] (rsT (reachF y o 2 eb fb)) := by
 have hs0 : (((y.sp : Nat) : Int) == 0) = false := by rw [e]; rfl
 have hs1 : (((y.sp : Nat) : Int) == 1) = true := by rw [e]; rfl
 have hs2 : (((y.sp : Nat) : Int) == 2) = false := by rw [e]; rfl
 have hkb : kindB ((2 : Nat) : Int) ((y.sp : Nat) : Int) = false := by rw [e]; rfl
 have hn0 : (!(((y.sp : Nat) : Int) == 0)) = true := by rw [hs0]; rfl
 have hn1 : (!(((y.sp : Nat) : Int) == 1)) = false := by rw [hs1]; rfl
 have hn2 : (!(((y.sp : Nat) : Int) == 2)) = true := by rw [hs2]; rfl
 have hnk : (!kindB ((2 : Nat) : Int) ((y.sp : Nat) : Int)) = true := by rw [hkb]; rfl
 refine pr (by kernel_rfl) Tryz.func29 rfl rfl rfl ?_
 refine W0 ?_
 repeat' (first | ((first | refine au ?_ | refine c0f (f58 _ _) ⟨.same, .same, trivial⟩ rfl ?_ | refine c0f (f59 _ _ _) ⟨.same, .same, .same, trivial⟩ rfl ?_ | refine c0f (f60 _ _ _ _) ⟨.same, .same, .same, .same, trivial⟩ rfl ?_ | refine c0f (xk52 0 [] false 0 0 2 (by decide)) ⟨opG_le .same .same .same .same .same .same, trivial⟩ rfl ?_ | fail); conv => whnf) | (refine W1 ?_) | ((first | refine af hs0 ?_ | refine ag hs0 ?_ | refine af hs1 ?_ | refine ag hs1 ?_ | refine af hs2 ?_ | refine ag hs2 ?_ | refine af hkb ?_ | refine ag hkb ?_ | refine af hn0 ?_ | refine ag hn0 ?_ | refine af hn1 ?_ | refine ag hn1 ?_ | refine af hn2 ?_ | refine ag hn2 ?_ | refine af hnk ?_ | refine ag hnk ?_ | refine an (by decide) ?_ | refine na (by decide) ?_ | refine ⟨⟨by have h1 := (by assumption : -65535 ≤ y.ad ∧ y.ad ≤ 65535); have h2 := (by assumption : -65535 ≤ o ∧ o ≤ 65535); show inI64 (y.ad + o); unfold inI64; omega⟩, ?_⟩ | fail); conv => whnf) | (refine And.intro ?_ ?_ <;> intro hc <;> replace hc := nm hc <;> (conv => whnf)))
 all_goals refine rsE ?_ (by rfl) (by rfl)
 all_goals unfold reachF
 all_goals simp only [lst, mst, e, valS0] at *
 all_goals simp [*]
 all_goals omega
theorem f29_22 (y : Sym) (e : y.sp = 2) (o eb fb : Int) : PureCall Tryz.prog 29 [y.av, i64 o, u8 (2 : Nat), i64 eb, i64 fb] (rsT (reachF y o 2 eb fb)) := by
 have hs0 : (((y.sp : Nat) : Int) == 0) = false := by rw [e]; rfl
 have hs1 : (((y.sp : Nat) : Int) == 1) = false := by rw [e]; rfl
 have hs2 : (((y.sp : Nat) : Int) == 2) = true := by rw [e]; rfl
 have hkb : kindB ((2 : Nat) : Int) ((y.sp : Nat) : Int) = true := by rw [e]; rfl
 have hn0 : (!(((y.sp : Nat) : Int) == 0)) = true := by rw [hs0]; rfl
 have hn1 : (!(((y.sp : Nat) : Int) == 1)) = true := by rw [hs1]; rfl
 have hn2 : (!(((y.sp : Nat) : Int) == 2)) = false := by rw [hs2]; rfl
 have hnk : (!kindB ((2 : Nat) : Int) ((y.sp : Nat) : Int)) = false := by rw [hkb]; rfl
 refine pr (by kernel_rfl) Tryz.func29 rfl rfl rfl ?_
 refine W0 ?_
 repeat' (first | ((first | refine au ?_ | refine c0f (f58 _ _) ⟨.same, .same, trivial⟩ rfl ?_ | refine c0f (f59 _ _ _) ⟨.same, .same, .same, trivial⟩ rfl ?_ | refine c0f (f60 _ _ _ _) ⟨.same, .same, .same, .same, trivial⟩ rfl ?_ | refine c0f (xk52 0 [] false 0 0 2 (by decide)) ⟨opG_le .same .same .same .same .same .same, trivial⟩ rfl ?_ | fail); conv => whnf) | (refine W1 ?_) | ((first | refine af hs0 ?_ | refine ag hs0 ?_ | refine af hs1 ?_ | refine ag hs1 ?_ | refine af hs2 ?_ | refine ag hs2 ?_ | refine af hkb ?_ | refine ag hkb ?_ | refine af hn0 ?_ | refine ag hn0 ?_ | refine af hn1 ?_ | refine ag hn1 ?_ | refine af hn2 ?_ | refine ag hn2 ?_ | refine af hnk ?_ | refine ag hnk ?_ | refine an (by decide) ?_ | refine na (by decide) ?_ | refine ⟨⟨by have h1 := (by assumption : -65535 ≤ y.ad ∧ y.ad ≤ 65535); have h2 := (by assumption : -65535 ≤ o ∧ o ≤ 65535); show inI64 (y.ad + o); unfold inI64; omega⟩, ?_⟩ | fail); conv => whnf) | (refine And.intro ?_ ?_ <;> intro hc <;> replace hc := nm hc <;> (conv => whnf)))
 all_goals refine rsE ?_ (by rfl) (by rfl)
 all_goals unfold reachF
 all_goals simp only [lst, mst, e, valS0] at *
 all_goals simp [*]
 all_goals omega
theorem f29_30 (y : Sym) (e : y.sp = 0) (o eb fb : Int) : PureCall Tryz.prog 29 [y.av, i64 o, u8 (3 : Nat), i64 eb, i64 fb] (rsT (reachF y o 3 eb fb)) := by
 have hs0 : (((y.sp : Nat) : Int) == 0) = true := by rw [e]; rfl
 have hs1 : (((y.sp : Nat) : Int) == 1) = false := by rw [e]; rfl
 have hs2 : (((y.sp : Nat) : Int) == 2) = false := by rw [e]; rfl
 have hkb : kindB ((3 : Nat) : Int) ((y.sp : Nat) : Int) = true := by rw [e]; rfl
 have hn0 : (!(((y.sp : Nat) : Int) == 0)) = false := by rw [hs0]; rfl
 have hn1 : (!(((y.sp : Nat) : Int) == 1)) = true := by rw [hs1]; rfl
 have hn2 : (!(((y.sp : Nat) : Int) == 2)) = true := by rw [hs2]; rfl
 have hnk : (!kindB ((3 : Nat) : Int) ((y.sp : Nat) : Int)) = false := by rw [hkb]; rfl
 refine pr (by kernel_rfl) Tryz.func29 rfl rfl rfl ?_
 refine W0 ?_
 repeat' (first | ((first | refine au ?_ | refine c0f (f58 _ _) ⟨.same, .same, trivial⟩ rfl ?_ | refine c0f (f59 _ _ _) ⟨.same, .same, .same, trivial⟩ rfl ?_ | refine c0f (f60 _ _ _ _) ⟨.same, .same, .same, .same, trivial⟩ rfl ?_ | refine c0f (xk52 0 [] false 0 0 3 (by decide)) ⟨opG_le .same .same .same .same .same .same, trivial⟩ rfl ?_ | fail); conv => whnf) | (refine W1 ?_) | ((first | refine af hs0 ?_ | refine ag hs0 ?_ | refine af hs1 ?_ | refine ag hs1 ?_ | refine af hs2 ?_ | refine ag hs2 ?_ | refine af hkb ?_ | refine ag hkb ?_ | refine af hn0 ?_ | refine ag hn0 ?_ | refine af hn1 ?_ | refine ag hn1 ?_ | refine af hn2 ?_ | refine ag hn2 ?_ | refine af hnk ?_ | refine ag hnk ?_ | refine an (by decide) ?_ | refine na (by decide) ?_ | refine ⟨⟨by have h1 := (by assumption : -65535 ≤ y.ad ∧ y.ad ≤ 65535); have h2 := (by assumption : -65535 ≤ o ∧ o ≤ 65535); show inI64 (y.ad + o); unfold inI64; omega⟩, ?_⟩ | fail); conv => whnf) | (refine And.intro ?_ ?_ <;> intro hc <;> replace hc := nm hc <;> (conv => whnf)))
 all_goals refine rsE ?_ (by rfl) (by rfl)
 all_goals unfold reachF
 all_goals simp only [lst, mst, e, valS0] at *
 all_goals simp [*]
 all_goals omega
theorem f29_31 (y : Sym) (e : y.sp = 1) (o eb fb : Int) : PureCall Tryz.prog 29 [y.av, i64 o, u8 (3 : Nat), i64 eb, i64 fb] (rsT (reachF y o 3 eb fb)) := by
 have hs0 : (((y.sp : Nat) : Int) == 0) = false := by rw [e]; rfl
 have hs1 : (((y.sp : Nat) : Int) == 1) = true := by rw [e]; rfl
 have hs2 : (((y.sp : Nat) : Int) == 2) = false := by rw [e]; rfl
 have hkb : kindB ((3 : Nat) : Int) ((y.sp : Nat) : Int) = true := by rw [e]; rfl
 have hn0 : (!(((y.sp : Nat) : Int) == 0)) = true := by rw [hs0]; rfl
 have hn1 : (!(((y.sp : Nat) : Int) == 1)) = false := by rw [hs1]; rfl
 have hn2 : (!(((y.sp : Nat) : Int) == 2)) = true := by rw [hs2]; rfl
 have hnk : (!kindB ((3 : Nat) : Int) ((y.sp : Nat) : Int)) = false := by rw [hkb]; rfl
 refine pr (by kernel_rfl) Tryz.func29 rfl rfl rfl ?_
 refine W0 ?_
 repeat' (first | ((first | refine au ?_ | refine c0f (f58 _ _) ⟨.same, .same, trivial⟩ rfl ?_ | refine c0f (f59 _ _ _) ⟨.same, .same, .same, trivial⟩ rfl ?_ | refine c0f (f60 _ _ _ _) ⟨.same, .same, .same, .same, trivial⟩ rfl ?_ | refine c0f (xk52 0 [] false 0 0 3 (by decide)) ⟨opG_le .same .same .same .same .same .same, trivial⟩ rfl ?_ | fail); conv => whnf) | (refine W1 ?_) | ((first | refine af hs0 ?_ | refine ag hs0 ?_ | refine af hs1 ?_ | refine ag hs1 ?_ | refine af hs2 ?_ | refine ag hs2 ?_ | refine af hkb ?_ | refine ag hkb ?_ | refine af hn0 ?_ | refine ag hn0 ?_ | refine af hn1 ?_ | refine ag hn1 ?_ | refine af hn2 ?_ | refine ag hn2 ?_ | refine af hnk ?_ | refine ag hnk ?_ | refine an (by decide) ?_ | refine na (by decide) ?_ | refine ⟨⟨by have h1 := (by assumption : -65535 ≤ y.ad ∧ y.ad ≤ 65535); have h2 := (by assumption : -65535 ≤ o ∧ o ≤ 65535); show inI64 (y.ad + o); unfold inI64; omega⟩, ?_⟩ | fail); conv => whnf) | (refine And.intro ?_ ?_ <;> intro hc <;> replace hc := nm hc <;> (conv => whnf)))
 all_goals refine rsE ?_ (by rfl) (by rfl)
 all_goals unfold reachF
 all_goals simp only [lst, mst, e, valS0] at *
 all_goals simp [*]
 all_goals omega
theorem f29_32 (y : Sym) (e : y.sp = 2) (o eb fb : Int) : PureCall Tryz.prog 29 [y.av, i64 o, u8 (3 : Nat), i64 eb, i64 fb] (rsT (reachF y o 3 eb fb)) := by
 have hs0 : (((y.sp : Nat) : Int) == 0) = false := by rw [e]; rfl
 have hs1 : (((y.sp : Nat) : Int) == 1) = false := by rw [e]; rfl
 have hs2 : (((y.sp : Nat) : Int) == 2) = true := by rw [e]; rfl
 have hkb : kindB ((3 : Nat) : Int) ((y.sp : Nat) : Int) = true := by rw [e]; rfl
 have hn0 : (!(((y.sp : Nat) : Int) == 0)) = true := by rw [hs0]; rfl
 have hn1 : (!(((y.sp : Nat) : Int) == 1)) = true := by rw [hs1]; rfl
 have hn2 : (!(((y.sp : Nat) : Int) == 2)) = false := by rw [hs2]; rfl
 have hnk : (!kindB ((3 : Nat) : Int) ((y.sp : Nat) : Int)) = false := by rw [hkb]; rfl
 refine pr (by kernel_rfl) Tryz.func29 rfl rfl rfl ?_
 refine W0 ?_
 repeat' (first | ((first | refine au ?_ | refine c0f (f58 _ _) ⟨.same, .same, trivial⟩ rfl ?_ | refine c0f (f59 _ _ _) ⟨.same, .same, .same, trivial⟩ rfl ?_ | refine c0f (f60 _ _ _ _) ⟨.same, .same, .same, .same, trivial⟩ rfl ?_ | refine c0f (xk52 0 [] false 0 0 3 (by decide)) ⟨opG_le .same .same .same .same .same .same, trivial⟩ rfl ?_ | fail); conv => whnf) | (refine W1 ?_) | ((first | refine af hs0 ?_ | refine ag hs0 ?_ | refine af hs1 ?_ | refine ag hs1 ?_ | refine af hs2 ?_ | refine ag hs2 ?_ | refine af hkb ?_ | refine ag hkb ?_ | refine af hn0 ?_ | refine ag hn0 ?_ | refine af hn1 ?_ | refine ag hn1 ?_ | refine af hn2 ?_ | refine ag hn2 ?_ | refine af hnk ?_ | refine ag hnk ?_ | refine an (by decide) ?_ | refine na (by decide) ?_ | refine ⟨⟨by have h1 := (by assumption : -65535 ≤ y.ad ∧ y.ad ≤ 65535); have h2 := (by assumption : -65535 ≤ o ∧ o ≤ 65535); show inI64 (y.ad + o); unfold inI64; omega⟩, ?_⟩ | fail); conv => whnf) | (refine And.intro ?_ ?_ <;> intro hc <;> replace hc := nm hc <;> (conv => whnf)))
 all_goals refine rsE ?_ (by rfl) (by rfl)
 all_goals unfold reachF
 all_goals simp only [lst, mst, e, valS0] at *
 all_goals simp [*]
 all_goals omega
theorem f29_40 (y : Sym) (e : y.sp = 0) (o eb fb : Int) : PureCall Tryz.prog 29 [y.av, i64 o, u8 (4 : Nat), i64 eb, i64 fb] (rsT (reachF y o 4 eb fb)) := by
 have hs0 : (((y.sp : Nat) : Int) == 0) = true := by rw [e]; rfl
 have hs1 : (((y.sp : Nat) : Int) == 1) = false := by rw [e]; rfl
 have hs2 : (((y.sp : Nat) : Int) == 2) = false := by rw [e]; rfl
 have hkb : kindB ((4 : Nat) : Int) ((y.sp : Nat) : Int) = true := by rw [e]; rfl
 have hn0 : (!(((y.sp : Nat) : Int) == 0)) = false := by rw [hs0]; rfl
 have hn1 : (!(((y.sp : Nat) : Int) == 1)) = true := by rw [hs1]; rfl
 have hn2 : (!(((y.sp : Nat) : Int) == 2)) = true := by rw [hs2]; rfl
 have hnk : (!kindB ((4 : Nat) : Int) ((y.sp : Nat) : Int)) = false := by rw [hkb]; rfl
 refine pr (by kernel_rfl) Tryz.func29 rfl rfl rfl ?_
 refine W0 ?_
 repeat' (first | ((first | refine au ?_ | refine c0f (f58 _ _) ⟨.same, .same, trivial⟩ rfl ?_ | refine c0f (f59 _ _ _) ⟨.same, .same, .same, trivial⟩ rfl ?_ | refine c0f (f60 _ _ _ _) ⟨.same, .same, .same, .same, trivial⟩ rfl ?_ | refine c0f (xk52 0 [] false 0 0 4 (by decide)) ⟨opG_le .same .same .same .same .same .same, trivial⟩ rfl ?_ | fail); conv => whnf) | (refine W1 ?_) | ((first | refine af hs0 ?_ | refine ag hs0 ?_ | refine af hs1 ?_ | refine ag hs1 ?_ | refine af hs2 ?_ | refine ag hs2 ?_ | refine af hkb ?_ | refine ag hkb ?_ | refine af hn0 ?_ | refine ag hn0 ?_ | refine af hn1 ?_ | refine ag hn1 ?_ | refine af hn2 ?_ | refine ag hn2 ?_ | refine af hnk ?_ | refine ag hnk ?_ | refine an (by decide) ?_ | refine na (by decide) ?_ | refine ⟨⟨by have h1 := (by assumption : -65535 ≤ y.ad ∧ y.ad ≤ 65535); have h2 := (by assumption : -65535 ≤ o ∧ o ≤ 65535); show inI64 (y.ad + o); unfold inI64; omega⟩, ?_⟩ | fail); conv => whnf) | (refine And.intro ?_ ?_ <;> intro hc <;> replace hc := nm hc <;> (conv => whnf)))
 all_goals refine rsE ?_ (by rfl) (by rfl)
 all_goals unfold reachF
 all_goals simp only [lst, mst, e, valS0] at *
 all_goals simp [*]
 all_goals omega
theorem f29_41 (y : Sym) (e : y.sp = 1) (o eb fb : Int) : PureCall Tryz.prog 29 [y.av, i64 o, u8 (4 : Nat), i64 eb, i64 fb] (rsT (reachF y o 4 eb fb)) := by
 have hs0 : (((y.sp : Nat) : Int) == 0) = false := by rw [e]; rfl
 have hs1 : (((y.sp : Nat) : Int) == 1) = true := by rw [e]; rfl
 have hs2 : (((y.sp : Nat) : Int) == 2) = false := by rw [e]; rfl
 have hkb : kindB ((4 : Nat) : Int) ((y.sp : Nat) : Int) = false := by rw [e]; rfl
 have hn0 : (!(((y.sp : Nat) : Int) == 0)) = true := by rw [hs0]; rfl
 have hn1 : (!(((y.sp : Nat) : Int) == 1)) = false := by rw [hs1]; rfl
 have hn2 : (!(((y.sp : Nat) : Int) == 2)) = true := by rw [hs2]; rfl
 have hnk : (!kindB ((4 : Nat) : Int) ((y.sp : Nat) : Int)) = true := by rw [hkb]; rfl
 refine pr (by kernel_rfl) Tryz.func29 rfl rfl rfl ?_
 refine W0 ?_
 repeat' (first | ((first | refine au ?_ | refine c0f (f58 _ _) ⟨.same, .same, trivial⟩ rfl ?_ | refine c0f (f59 _ _ _) ⟨.same, .same, .same, trivial⟩ rfl ?_ | refine c0f (f60 _ _ _ _) ⟨.same, .same, .same, .same, trivial⟩ rfl ?_ | refine c0f (xk52 0 [] false 0 0 4 (by decide)) ⟨opG_le .same .same .same .same .same .same, trivial⟩ rfl ?_ | fail); conv => whnf) | (refine W1 ?_) | ((first | refine af hs0 ?_ | refine ag hs0 ?_ | refine af hs1 ?_ | refine ag hs1 ?_ | refine af hs2 ?_ | refine ag hs2 ?_ | refine af hkb ?_ | refine ag hkb ?_ | refine af hn0 ?_ | refine ag hn0 ?_ | refine af hn1 ?_ | refine ag hn1 ?_ | refine af hn2 ?_ | refine ag hn2 ?_ | refine af hnk ?_ | refine ag hnk ?_ | refine an (by decide) ?_ | refine na (by decide) ?_ | refine ⟨⟨by have h1 := (by assumption : -65535 ≤ y.ad ∧ y.ad ≤ 65535); have h2 := (by assumption : -65535 ≤ o ∧ o ≤ 65535); show inI64 (y.ad + o); unfold inI64; omega⟩, ?_⟩ | fail); conv => whnf) | (refine And.intro ?_ ?_ <;> intro hc <;> replace hc := nm hc <;> (conv => whnf)))
 all_goals refine rsE ?_ (by rfl) (by rfl)
 all_goals unfold reachF
 all_goals simp only [lst, mst, e, valS0] at *
 all_goals simp [*]
 all_goals omega
theorem f29_42 (y : Sym) (e : y.sp = 2) (o eb fb : Int) : PureCall Tryz.prog 29 [y.av, i64 o, u8 (4 : Nat), i64 eb, i64 fb] (rsT (reachF y o 4 eb fb)) := by
 have hs0 : (((y.sp : Nat) : Int) == 0) = false := by rw [e]; rfl
 have hs1 : (((y.sp : Nat) : Int) == 1) = false := by rw [e]; rfl
 have hs2 : (((y.sp : Nat) : Int) == 2) = true := by rw [e]; rfl
 have hkb : kindB ((4 : Nat) : Int) ((y.sp : Nat) : Int) = false := by rw [e]; rfl
 have hn0 : (!(((y.sp : Nat) : Int) == 0)) = true := by rw [hs0]; rfl
 have hn1 : (!(((y.sp : Nat) : Int) == 1)) = true := by rw [hs1]; rfl
 have hn2 : (!(((y.sp : Nat) : Int) == 2)) = false := by rw [hs2]; rfl
 have hnk : (!kindB ((4 : Nat) : Int) ((y.sp : Nat) : Int)) = true := by rw [hkb]; rfl
 refine pr (by kernel_rfl) Tryz.func29 rfl rfl rfl ?_
 refine W0 ?_
 repeat' (first | ((first | refine au ?_ | refine c0f (f58 _ _) ⟨.same, .same, trivial⟩ rfl ?_ | refine c0f (f59 _ _ _) ⟨.same, .same, .same, trivial⟩ rfl ?_ | refine c0f (f60 _ _ _ _) ⟨.same, .same, .same, .same, trivial⟩ rfl ?_ | refine c0f (xk52 0 [] false 0 0 4 (by decide)) ⟨opG_le .same .same .same .same .same .same, trivial⟩ rfl ?_ | fail); conv => whnf) | (refine W1 ?_) | ((first | refine af hs0 ?_ | refine ag hs0 ?_ | refine af hs1 ?_ | refine ag hs1 ?_ | refine af hs2 ?_ | refine ag hs2 ?_ | refine af hkb ?_ | refine ag hkb ?_ | refine af hn0 ?_ | refine ag hn0 ?_ | refine af hn1 ?_ | refine ag hn1 ?_ | refine af hn2 ?_ | refine ag hn2 ?_ | refine af hnk ?_ | refine ag hnk ?_ | refine an (by decide) ?_ | refine na (by decide) ?_ | refine ⟨⟨by have h1 := (by assumption : -65535 ≤ y.ad ∧ y.ad ≤ 65535); have h2 := (by assumption : -65535 ≤ o ∧ o ≤ 65535); show inI64 (y.ad + o); unfold inI64; omega⟩, ?_⟩ | fail); conv => whnf) | (refine And.intro ?_ ?_ <;> intro hc <;> replace hc := nm hc <;> (conv => whnf)))
 all_goals refine rsE ?_ (by rfl) (by rfl)
 all_goals unfold reachF
 all_goals simp only [lst, mst, e, valS0] at *
 all_goals simp [*]
 all_goals omega
theorem f29_13 (y : Sym) (e : 2 < y.sp) (o eb fb : Int) : PureCall Tryz.prog 29 [y.av, i64 o, u8 (1 : Nat), i64 eb, i64 fb] (rsT (reachF y o 1 eb fb)) := by
 have hs0 : (((y.sp : Nat) : Int) == 0) = false := beq_eq_false_iff_ne.mpr (by omega)
 have hs1 : (((y.sp : Nat) : Int) == 1) = false := beq_eq_false_iff_ne.mpr (by omega)
 have hs2 : (((y.sp : Nat) : Int) == 2) = false := beq_eq_false_iff_ne.mpr (by omega)
 have hn0 : (!(((y.sp : Nat) : Int) == 0)) = true := by rw [hs0]; rfl
 have hn1 : (!(((y.sp : Nat) : Int) == 1)) = true := by rw [hs1]; rfl
 have hn2 : (!(((y.sp : Nat) : Int) == 2)) = true := by rw [hs2]; rfl
 refine pr (by kernel_rfl) Tryz.func29 rfl rfl rfl ?_
 refine W0 ?_
 repeat' (first | (refine W1 ?_) | ((first | refine af hs0 ?_ | refine ag hs0 ?_ | refine af hs1 ?_ | refine ag hs1 ?_ | refine af hs2 ?_ | refine ag hs2 ?_ | refine af hn0 ?_ | refine ag hn0 ?_ | refine af hn1 ?_ | refine ag hn1 ?_ | refine af hn2 ?_ | refine ag hn2 ?_ | refine an (by decide) ?_ | refine na (by decide) ?_ | fail); conv => whnf) | fail)
 exact rsE (by unfold reachF; rw [if_pos (.inr e)]) (by rfl) (by rfl)
theorem f29_23 (y : Sym) (e : 2 < y.sp) (o eb fb : Int) : PureCall Tryz.prog 29 [y.av, i64 o, u8 (2 : Nat), i64 eb, i64 fb] (rsT (reachF y o 2 eb fb)) := by
 have hs0 : (((y.sp : Nat) : Int) == 0) = false := beq_eq_false_iff_ne.mpr (by omega)
 have hs1 : (((y.sp : Nat) : Int) == 1) = false := beq_eq_false_iff_ne.mpr (by omega)
 have hs2 : (((y.sp : Nat) : Int) == 2) = false := beq_eq_false_iff_ne.mpr (by omega)
 have hn0 : (!(((y.sp : Nat) : Int) == 0)) = true := by rw [hs0]; rfl
 have hn1 : (!(((y.sp : Nat) : Int) == 1)) = true := by rw [hs1]; rfl
 have hn2 : (!(((y.sp : Nat) : Int) == 2)) = true := by rw [hs2]; rfl
 refine pr (by kernel_rfl) Tryz.func29 rfl rfl rfl ?_
 refine W0 ?_
 repeat' (first | (refine W1 ?_) | ((first | refine af hs0 ?_ | refine ag hs0 ?_ | refine af hs1 ?_ | refine ag hs1 ?_ | refine af hs2 ?_ | refine ag hs2 ?_ | refine af hn0 ?_ | refine ag hn0 ?_ | refine af hn1 ?_ | refine ag hn1 ?_ | refine af hn2 ?_ | refine ag hn2 ?_ | refine an (by decide) ?_ | refine na (by decide) ?_ | fail); conv => whnf) | fail)
 exact rsE (by unfold reachF; rw [if_pos (.inr e)]) (by rfl) (by rfl)
theorem f29_33 (y : Sym) (e : 2 < y.sp) (o eb fb : Int) : PureCall Tryz.prog 29 [y.av, i64 o, u8 (3 : Nat), i64 eb, i64 fb] (rsT (reachF y o 3 eb fb)) := by
 have hs0 : (((y.sp : Nat) : Int) == 0) = false := beq_eq_false_iff_ne.mpr (by omega)
 have hs1 : (((y.sp : Nat) : Int) == 1) = false := beq_eq_false_iff_ne.mpr (by omega)
 have hs2 : (((y.sp : Nat) : Int) == 2) = false := beq_eq_false_iff_ne.mpr (by omega)
 have hn0 : (!(((y.sp : Nat) : Int) == 0)) = true := by rw [hs0]; rfl
 have hn1 : (!(((y.sp : Nat) : Int) == 1)) = true := by rw [hs1]; rfl
 have hn2 : (!(((y.sp : Nat) : Int) == 2)) = true := by rw [hs2]; rfl
 refine pr (by kernel_rfl) Tryz.func29 rfl rfl rfl ?_
 refine W0 ?_
 repeat' (first | (refine W1 ?_) | ((first | refine af hs0 ?_ | refine ag hs0 ?_ | refine af hs1 ?_ | refine ag hs1 ?_ | refine af hs2 ?_ | refine ag hs2 ?_ | refine af hn0 ?_ | refine ag hn0 ?_ | refine af hn1 ?_ | refine ag hn1 ?_ | refine af hn2 ?_ | refine ag hn2 ?_ | refine an (by decide) ?_ | refine na (by decide) ?_ | fail); conv => whnf) | fail)
 exact rsE (by unfold reachF; rw [if_pos (.inr e)]) (by rfl) (by rfl)
theorem f29_43 (y : Sym) (e : 2 < y.sp) (o eb fb : Int) : PureCall Tryz.prog 29 [y.av, i64 o, u8 (4 : Nat), i64 eb, i64 fb] (rsT (reachF y o 4 eb fb)) := by
 have hs0 : (((y.sp : Nat) : Int) == 0) = false := beq_eq_false_iff_ne.mpr (by omega)
 have hs1 : (((y.sp : Nat) : Int) == 1) = false := beq_eq_false_iff_ne.mpr (by omega)
 have hs2 : (((y.sp : Nat) : Int) == 2) = false := beq_eq_false_iff_ne.mpr (by omega)
 have hn0 : (!(((y.sp : Nat) : Int) == 0)) = true := by rw [hs0]; rfl
 have hn1 : (!(((y.sp : Nat) : Int) == 1)) = true := by rw [hs1]; rfl
 have hn2 : (!(((y.sp : Nat) : Int) == 2)) = true := by rw [hs2]; rfl
 refine pr (by kernel_rfl) Tryz.func29 rfl rfl rfl ?_
 refine W0 ?_
 repeat' (first | (refine W1 ?_) | ((first | refine af hs0 ?_ | refine ag hs0 ?_ | refine af hs1 ?_ | refine ag hs1 ?_ | refine af hs2 ?_ | refine ag hs2 ?_ | refine af hn0 ?_ | refine ag hn0 ?_ | refine af hn1 ?_ | refine ag hn1 ?_ | refine af hn2 ?_ | refine ag hn2 ?_ | refine an (by decide) ?_ | refine na (by decide) ?_ | fail); conv => whnf) | fail)
 exact rsE (by unfold reachF; rw [if_pos (.inr e)]) (by rfl) (by rfl)
theorem f29_n (y : Sym) (o : Int) (kd : Nat) (eb fb : Int) (h : ¬ (1 ≤ kd ∧ kd ≤ 4)) : PureCall Tryz.prog 29 [y.av, i64 o, u8 kd, i64 eb, i64 fb] (rsT (reachF y o kd eb fb)) := by
 have hs1 : (((kd : Nat) : Int) == 1) = false := beq_eq_false_iff_ne.mpr (by omega)
 have hs2 : (((kd : Nat) : Int) == 2) = false := beq_eq_false_iff_ne.mpr (by omega)
 have hs3 : (((kd : Nat) : Int) == 3) = false := beq_eq_false_iff_ne.mpr (by omega)
 have hs4 : (((kd : Nat) : Int) == 4) = false := beq_eq_false_iff_ne.mpr (by omega)
 have hn4 : (!(((kd : Nat) : Int) == 4)) = true := by rw [hs4]; rfl
 refine pr (by kernel_rfl) Tryz.func29 rfl rfl rfl ?_
 refine W0 ?_
 repeat' (first | (refine W1 ?_) | ((first | refine af hs1 ?_ | refine ag hs1 ?_ | refine af hs2 ?_ | refine ag hs2 ?_ | refine af hs3 ?_ | refine ag hs3 ?_ | refine af hs4 ?_ | refine ag hs4 ?_ | refine af hn4 ?_ | refine ag hn4 ?_ | fail); conv => whnf) | fail)
 exact rsE (by unfold reachF; rw [if_pos (.inl h)]) (by rfl) (by rfl)
theorem f29 (y : Sym) (o : Int) (kd : Nat) (eb fb : Int) : PureCall Tryz.prog 29 [y.av, i64 o, u8 kd, i64 eb, i64 fb] (rsT (reachF y o kd eb fb)) := by
 by_cases hk : 1 ≤ kd ∧ kd ≤ 4
 ·have h : kd = 1 ∨ kd = 2 ∨ kd = 3 ∨ kd = 4 := by omega
  have h2 : y.sp = 0 ∨ y.sp = 1 ∨ y.sp = 2 ∨ 2 < y.sp := by omega
  rcases h with rfl | rfl | rfl | rfl
  ·rcases h2 with e | e | e | e
   ·exact f29_10 y e o eb fb
   ·exact f29_11 y e o eb fb
   ·exact f29_12 y e o eb fb
   ·exact f29_13 y e o eb fb
  ·rcases h2 with e | e | e | e
   ·exact f29_20 y e o eb fb
   ·exact f29_21 y e o eb fb
   ·exact f29_22 y e o eb fb
   ·exact f29_23 y e o eb fb
  ·rcases h2 with e | e | e | e
   ·exact f29_30 y e o eb fb
   ·exact f29_31 y e o eb fb
   ·exact f29_32 y e o eb fb
   ·exact f29_33 y e o eb fb
  ·rcases h2 with e | e | e | e
   ·exact f29_40 y e o eb fb
   ·exact f29_41 y e o eb fb
   ·exact f29_42 y e o eb fb
   ·exact f29_43 y e o eb fb
 ·exact f29_n y o kd eb fb hk
theorem find_at : ∀ {l : List Sym} {n : List UInt8} {i : Nat}, i < l.length → (∀ j, j < i → (l.getD j sz0).nm ≠ n) → (l.getD i sz0).nm = n → findS l n = some (l.getD i sz0)
 | [], _, i, hi, _, _ => absurd hi (Nat.not_lt_zero i)
 | a :: l, n, 0, _, _, he => by
   unfold findS
   rw [List.find?_cons]
   have he : a.nm = n := he
   rw [show (a.nm == n) = true by simp [he]]; rfl
 | a :: l, n, i + 1, hi, hno, he => by
   unfold findS
   rw [List.find?_cons]
   have h0 : a.nm ≠ n := hno 0 (Nat.zero_lt_succ i)
   rw [show (a.nm == n) = false by simp [h0]]
   exact find_at (l := l) (Nat.lt_of_succ_lt_succ hi) (fun j hj => hno (j + 1) (Nat.succ_lt_succ hj)) he
theorem find_non {l : List Sym} {n : List UInt8} (h : ∀ j, j < l.length → (l.getD j sz0).nm ≠ n) : findS l n = none :=
 find_none.mpr fun x hx e => by
  obtain ⟨j, hj, rfl⟩ := List.getElem_of_mem hx
  exact h j hj (by rw [List.getD_eq_getElem?_getD, List.getElem?_eq_getElem hj]; exact e)
def fndT (x : Option Sym) : AV := tupV [(x.getD sz0).av, i64 (if x.isSome then 0 else 7)]
set_option maxHeartbeats 1000000 in
theorem f28 (l : List Sym) (n : List UInt8) (hl : l.length < 2 ^ 47) : PureCall Tryz.prog 28 [.pv (symsP l), st n] (fndT (findS l n)) := by
 refine pr (by kernel_rfl) Tryz.func28 rfl rfl rfl ?_
 refine W0 ?_
 refine ex_loop tab_ok mixed (fun i : Nat => i ≤ l.length ∧ ∀ j, j < i → (l.getD j sz0).nm ≠ n) (fun i => mkSt 25 [(0, .pv (symsP l)), (1, st n), (4, .ptr 4 0 3 0 0), (6, i64 i)] [(4, symB sz0)]) (fun i => l.length - i) 0 ⟨Nat.zero_le _, fun j hj => absurd hj (Nat.not_lt_zero j)⟩ (SubS.mk [] rfl ⟨⟨_, rfl, .same⟩, ⟨_, rfl, .same⟩, ⟨_, rfl, .pq rfl⟩, ⟨_, rfl, .same⟩, trivial⟩ ⟨.inl ⟨_, _, rfl, rfl, rfl, symB_le rfl rfl rfl rfl .same .same .same⟩, trivial⟩) ?_
 rintro i ⟨hi, hno⟩
 refine W0 ?_
 refine tr (fun hc => ?_) fun hc => ?_
 ·have hlt : i < l.length := by omega
  refine W0 ?_
  refine ⟨⟨by omega, by omega, rfl⟩, ?_⟩
  refine W0 ?_
  refine ⟨⟨by decide⟩, ?_⟩
  refine W0 ?_
  refine ⟨⟨nle rfl⟩, ?_⟩
  refine W0 ?_
  refine ⟨fun h => ?_, fun h => ?_⟩
  ·have he : (l.getD i sz0).nm = n := nm h
   rw [find_at hlt hno he]
   refine W0 ?_
   refine ⟨⟨by omega, by omega, rfl⟩, ?_⟩
   refine W0 ?_
   refine ⟨⟨nle rfl⟩, ?_⟩
   refine W0 ?_
   rw [Int.toNat_natCast]
   exact done_tup [(l.getD i sz0).av, i64 0] [] rfl ⟨symV .same .same .same, .same, trivial⟩
  ·have he : ¬ (l.getD i sz0).nm = n := nm h
   refine W0 ?_
   refine ⟨⟨by unfold inI64; omega⟩, ?_⟩
   refine W0 ?_
   exact ⟨i + 1, ⟨hlt, fun j hj => by rcases Nat.lt_or_ge j i with h | h; exact hno j h; rw [show j = i by omega]; exact he⟩, SubS.mk [] rfl ⟨⟨_, rfl, .same⟩, ⟨_, rfl, .same⟩, ⟨_, rfl, .pq rfl⟩, ⟨_, rfl, .same⟩, trivial⟩ ⟨.inl ⟨_, _, rfl, rfl, rfl, symB_le rfl rfl rfl rfl .same .same .same⟩, trivial⟩, by omega⟩
 ·refine W0 ?_
  have he : findS l n = none := find_non fun j hj => hno j (by omega)
  rw [he]
  exact done_tup [sz0.av, i64 7] [] rfl ⟨symV .same .same .same, .same, trivial⟩
def objI (o : ObjR) : AO := objB (.pv (cellsP o.cells)) (.pv (symsP o.syms))
def boxS (n : List UInt8) : AO := ⟨9, 0, 1, 1, fun _ _ => st n⟩
theorem boxS_le {H : Heap} {B : List Nat} {U : List (Nat × Nat)} {o : AO} {n : List UInt8} (e1 : o.E = 9) (e2 : o.gen = 0) (e3 : o.sz = 1) (e4 : o.n = 1) (h : VLe H B U (o.f 0 0) (st n)) : OLe H B U o (boxS n) :=
 ⟨e1.symm, e2.symm, e3.symm, Nat.le_of_eq e4.symm, fun i j hi hj => by
   have hi0 : i = 0 := Nat.lt_one_iff.mp hi
   have hj0 : j = 0 := by rw [e3] at hj; omega
   subst hi0 hj0; exact h⟩
def capF : AV := .func (.func 57) 0 (getL []) 1 (getL [.ptr 100 0 1 0 0])
theorem capV {H : Heap} {B : List Nat} {U : List (Nat × Nat)} {f p : Nat → AV} (h0 : VLe H B U (p 0) (.ptr 100 0 1 0 0)) : VLe H B U (.func (.func 57) 0 f 1 p) capF :=
 .func _ _ _ _ _ _ _ (fun i hi => absurd hi (Nat.not_lt_zero i)) (fun i hi => by
  have hi0 : i = 0 := Nat.lt_one_iff.mp hi
  subst hi0; exact h0)
set_option maxHeartbeats 1000000 in
theorem f57 (x : Sym) (n : List UInt8) : HeapCallK Tryz.prog 57 [x.av, .ptr 100 0 1 0 0] [(100, boxS n)] (fun r Hout => r = bb (x.nm == n) ∧ Hout = [(100, boxS n)]) (fun _ _ => False) := by
 refine HeapCallK.run tab_ok mixed (by kernel_rfl) Tryz.func57 rfl rfl rfl ?_
 refine W0 ?_
 refine W0 ?_
 exact ⟨_, _, ⟨rfl, rfl⟩, SubS.mkK [] rfl ⟨⟨_, rfl, .same⟩, trivial⟩ ⟨.inl ⟨_, _, rfl, rfl, rfl, boxS_le rfl rfl rfl rfl .same⟩, trivial⟩⟩
set_option maxHeartbeats 1000000 in
theorem f56 (l : List Sym) (n : List UInt8) (hl : l.length < 2 ^ 47) : HeapCallK Tryz.prog 56 [.pv (symsP l), capF] [(100, boxS n)] (fun r Hout => (∃ i : Nat, i < l.length ∧ (∀ j, j < i → (l.getD j sz0).nm ≠ n) ∧ (l.getD i sz0).nm = n ∧ r = i64 i ∧ Hout = [(100, boxS n)]) ∨ ((∀ j, j < l.length → (l.getD j sz0).nm ≠ n) ∧ r = i64 (-1) ∧ Hout = [(100, boxS n)])) (fun _ _ => False) := by
 refine HeapCallK.run tab_ok mixed (by kernel_rfl) Tryz.func56 rfl rfl rfl ?_
 refine W0 ?_
 refine ex_loop tab_ok mixed (fun i : Nat => i ≤ l.length ∧ ∀ j, j < i → (l.getD j sz0).nm ≠ n) (fun i => mkStK 19 [(0, .pv (symsP l)), (1, capF), (7, i64 l.length), (8, i64 i)] [(100, boxS n)] [100]) (fun i => l.length - i) 0 ⟨Nat.zero_le _, fun j hj => absurd hj (Nat.not_lt_zero j)⟩ (SubS.mkK [] rfl ⟨⟨_, rfl, .same⟩, ⟨_, rfl, capV (p := getL [.ptr 100 0 1 0 0]) (.pq rfl)⟩, ⟨_, rfl, .same⟩, ⟨_, rfl, .same⟩, trivial⟩ ⟨.inl ⟨_, _, rfl, rfl, rfl, boxS_le rfl rfl rfl rfl .same⟩, trivial⟩) ?_
 rintro i ⟨hi, hno⟩
 refine W0 ?_
 refine tr (fun hc => ?_) fun hc => ?_
 ·have hlt : i < l.length := by omega
  refine W0 ?_
  refine ⟨⟨by omega, by omega, rfl⟩, ?_⟩
  refine W0 ?_
  refine ⟨⟨nle rfl⟩, ?_⟩
  refine W0 ?_
  rw [Int.toNat_natCast]
  refine CallK.heapK (f57 (l.getD i sz0) n) [] [(100, 100)] rfl rfl rfl ⟨symV .same .same .same, (.pq rfl), trivial⟩ ⟨.inl ⟨_, _, rfl, rfl, rfl, boxS_le rfl rfl rfl rfl .same⟩, trivial⟩ 2000 rfl (fun r Hout hr => ?_) (fun r Hout hr => hr.elim)
  obtain ⟨rfl, rfl⟩ := hr
  refine W0 ?_
  refine ⟨fun h => ?_, fun h => ?_⟩
  ·have he : (l.getD i sz0).nm = n := nm h
   refine W0 ?_
   exact ⟨_, _, .inl ⟨i, hlt, hno, he, rfl, rfl⟩, SubS.mkK [] rfl ⟨⟨_, rfl, .same⟩, trivial⟩ ⟨.inl ⟨_, _, rfl, rfl, rfl, boxS_le rfl rfl rfl rfl .same⟩, trivial⟩⟩
  ·have he : ¬ (l.getD i sz0).nm = n := nm h
   refine W0 ?_
   refine ⟨⟨by unfold inI64; omega⟩, ?_⟩
   refine W0 ?_
   exact ⟨i + 1, ⟨hlt, fun j hj => by rcases Nat.lt_or_ge j i with h | h; exact hno j h; rw [show j = i by omega]; exact he⟩, SubS.mkK [] rfl ⟨⟨_, rfl, .same⟩, ⟨_, rfl, capV (p := getL [.ptr 100 0 1 0 0]) (.pq rfl)⟩, ⟨_, rfl, .same⟩, ⟨_, rfl, .same⟩, trivial⟩ ⟨.inl ⟨_, _, rfl, rfl, rfl, boxS_le rfl rfl rfl rfl .same⟩, trivial⟩, by omega⟩
 ·refine W0 ?_
  exact ⟨_, _, .inr ⟨fun j hj => hno j (by omega), rfl, rfl⟩, SubS.mkK [] rfl ⟨⟨_, rfl, .same⟩, trivial⟩ ⟨.inl ⟨_, _, rfl, rfl, rfl, boxS_le rfl rfl rfl rfl .same⟩, trivial⟩⟩
set_option maxHeartbeats 1000000 in
theorem f27 (l : List Sym) (n : List UInt8) (hl : l.length < 2 ^ 47) : PureCall Tryz.prog 27 [.pv (symsP l), st n] (fndT (findS l n)) := by
 refine pr (by kernel_rfl) Tryz.func27 rfl rfl rfl ?_
 refine W0 ?_
 refine CallK.heapK (f56 l n hl) [] [(100, 3)] rfl rfl rfl ⟨.same, capV (p := getL [.ptr 3 0 1 0 0]) (.pq rfl), trivial⟩ ⟨.inl ⟨_, _, rfl, rfl, rfl, boxS_le rfl rfl rfl rfl .same⟩, trivial⟩ 2000 rfl (fun r Hout hr => ?_) (fun r Hout hr => hr.elim)
 rcases hr with ⟨i, hlt, hno, he, rfl, rfl⟩ | ⟨hno, rfl, rfl⟩
 ·rw [find_at hlt hno he]
  refine W0 ?_
  have h0 : decide ((0 : Int) ≤ i) = true := decide_eq_true (by omega)
  refine ⟨fun _ => ?_, fun h => absurd (h0.symm.trans h) (by decide)⟩
  refine W0 ?_
  refine ⟨⟨by omega, by omega, rfl⟩, ?_⟩
  refine W0 ?_
  refine ⟨⟨nle rfl⟩, ?_⟩
  refine W0 ?_
  rw [Int.toNat_natCast]
  exact done_tup [(l.getD i sz0).av, i64 0] [] rfl ⟨symV .same .same .same, .same, trivial⟩
 ·rw [find_non hno]
  refine W0 ?_
  refine na (by decide) ?_
  refine W0 ?_
  exact done_tup [sz0.av, i64 7] [] rfl ⟨symV .same .same .same, .same, trivial⟩
def wcell (w : Nat) (_ : Nat) : PV := .int .u16 w
def wantP (l : List Nat) : PV := sqA 51 1 wcell 0 l
def KnownOK (src : List UInt8) (at0 : Nat) (want : List Nat) : Prop := (textR src).2 = (0, 0) ∧ (textR src).1.cells = (List.range want.length).map fun i => (at0 + i, want.getD i 0)
set_option maxHeartbeats 2000000 in
theorem f24 (src : List UInt8) (at0 : Nat) (want : List Nat) (hs : B62 src) (ha : at0 < 2 ^ 32) (hw : want.length < 2 ^ 32) (hk : KnownOK src at0 want) : PureCall Tryz.prog 24 [st src, i64 at0, .pv (wantP want)] (bb true) := by
 obtain ⟨h1, h2⟩ := hk
 obtain ⟨o, ho⟩ : ∃ o, textR src = (o, 0, 0) := ⟨(textR src).1, Prod.ext rfl h1⟩
 rw [ho] at h2
 have h2 : o.cells = (List.range want.length).map fun i => (at0 + i, want.getD i 0) := h2
 have hlen : o.cells.length = want.length := by rw [h2]; simp
 have hget : ∀ i, i < want.length → o.cells.getD i (0, 0) = (at0 + i, want.getD i 0) := fun i hi => by
  rw [h2, List.getD_eq_getElem?_getD, List.getElem?_map, List.getElem?_range hi]; rfl
 have h16 := f16 src hs
 rw [ho] at h16
 refine pr (by kernel_rfl) Tryz.func24 rfl rfl rfl ?_
 refine Wd ?_
 refine c0d h16 ⟨.same, trivial⟩ ?_
 refine Wd ?_
 refine an (by simp) ?_
 refine Wd ?_
 refine an (by simp) ?_
 refine Wd ?_
 refine tr (fun h0 => ?_) fun h0 => ?_
 ·exact absurd (by rw [hlen]) h0
 ·refine Wd ?_
  refine awp_loopI (fun i : Nat => i ≤ want.length) (fun i => mkSt 60 [(1, i64 at0), (2, .pv (wantP want)), (7, .ptr 7 0 2 0 0), (10, i64 i)] [(7, objI o)]) (fun i => want.length - i) 0 (Nat.zero_le _) (SubS.mk [] rfl ⟨⟨_, rfl, .same⟩, ⟨_, rfl, .same⟩, ⟨_, rfl, .pq rfl⟩, ⟨_, rfl, .same⟩, trivial⟩ ⟨.inl ⟨_, _, rfl, rfl, rfl, objB_le rfl rfl rfl rfl .same .same⟩, trivial⟩) ?_
  intro i hi
  refine pc ?_
  refine Wd ?_
  refine tr (fun hc => ?_) fun hc => ?_
  ·have hlt : i < want.length := by omega
   have hg := hget i hlt
   refine Wd ?_
   refine awp_seq (awp_block ?_)
   refine awp_last tab_ok mixed (ex_sq (ex_drawn (by kernel_rfl) ?_))
   refine Wl ?_
   refine ⟨⟨by omega, by rw [hlen]; omega, rfl⟩, ?_⟩
   refine Wd ?_
   refine Wl ?_
   refine ⟨⟨by decide⟩, ?_⟩
   refine Wd ?_
   refine Wl ?_
   refine ⟨⟨nle rfl⟩, ?_⟩
   refine Wd ?_
   refine Wl ?_
   refine ⟨⟨by unfold inI64; omega⟩, ?_⟩
   refine Wd ?_
   refine Wl ?_
   rw [Int.toNat_natCast, hg]
   refine AD.test rfl rfl rfl ⟨fun _ => ?_, fun h => absurd h (by show ¬ ((((at0 + i : Nat) : Int) != (at0 : Int) + i) = true); simp)⟩
   refine Wd ?_
   refine Wl ?_
   refine ⟨⟨by omega, by rw [hlen]; omega, rfl⟩, ?_⟩
   refine Wd ?_
   refine Wl ?_
   refine ⟨⟨by decide⟩, ?_⟩
   refine Wd ?_
   refine Wl ?_
   refine ⟨⟨nle rfl⟩, ?_⟩
   refine Wd ?_
   refine Wl ?_
   refine ⟨⟨by omega, by omega, rfl⟩, ?_⟩
   refine Wd ?_
   refine Wl ?_
   refine ⟨⟨nle rfl⟩, ?_⟩
   refine Wd ?_
   refine Wl ?_
   refine AD.nil ⟨by kernel_rfl, ?_⟩
   refine Wd ?_
   refine Wd ?_
   rw [Int.toNat_natCast, hg]
   refine ⟨fun h => absurd h (by show ¬ (((want.getD i 0 : Nat) : Int) != (want.getD i 0 : Nat)) = true; simp), fun _ => ?_⟩
   refine Wd ?_
   refine awp_last tab_ok mixed ?_
   refine Wd ?_
   refine ⟨⟨by unfold inI64; omega⟩, ?_⟩
   refine Wd ?_
   exact ⟨i + 1, hlt, SubS.mk [] rfl ⟨⟨_, rfl, .same⟩, ⟨_, rfl, .same⟩, ⟨_, rfl, .pq rfl⟩, ⟨_, rfl, .same⟩, trivial⟩ ⟨.inl ⟨_, _, rfl, rfl, rfl, objB_le rfl rfl rfl rfl .same .same⟩, trivial⟩, by omega⟩
  ·refine Wd ?_
   exact done_bool _ _ rfl rfl rfl
end Go.Proofs.YtkeecnoafjhhdaaGreatDoor
namespace Go.Proofs.YtkeecnoafjhhdaaGreatDoor
open Go Go.AM
attribute [local irreducible] AWP CallK PureCall SubS HeapCallK
def srcA : List UInt8 := [32, 66, 65, 78, 75, 32, 52, 10, 71, 79, 32, 67, 65, 32, 88, 10, 32, 77, 80, 32, 88, 10, 88, 32, 79, 67, 84, 32, 53]
def srcB : List UInt8 := [65, 32, 69, 82, 65, 83, 69, 32, 51, 10, 32, 84, 67, 32, 66]
instance (src : List UInt8) (a : Nat) (w : List Nat) : Decidable (KnownOK src a w) := by unfold KnownOK; infer_instance
def RefOK (src : List UInt8) (ln e : Int) : Prop := (textR src).1.cells.length = 0 ∧ (textR src).1.syms.length = 0 ∧ (textR src).2 = (ln, e)
instance (src : List UInt8) (ln e : Int) : Decidable (RefOK src ln e) := by unfold RefOK; infer_instance
theorem ref_eq {src : List UInt8} {ln e : Int} (h : RefOK src ln e) : textR src = (⟨[], []⟩, ln, e) := by
 obtain ⟨h1, h2, h3⟩ := h
 generalize textR src = x at *
 obtain ⟨⟨c, s⟩, y⟩ := x
 have g1 : c = [] := List.eq_nil_of_length_eq_zero h1
 have g2 : s = [] := List.eq_nil_of_length_eq_zero h2
 have g3 : y = (ln, e) := h3
 rw [g1, g2, g3]
theorem knA : KnownOK srcA 4096 [13315, 6, 29699, 5] := by decide +kernel
theorem rfB : RefOK srcB 2 7 := by decide +kernel
theorem cellsW {H : Heap} {B : List Nat} {U : List (Nat × Nat)} {F : Nat → Nat → AV} {L : List Nat} (h : ∀ i, i < L.length → VLe H B U (F i 0) (.pv (.int .u16 (L.getD i 0 : Nat)))) : CellsA H B U F wcell 0 1 L := fun i j hi hj => by
 have : j = 0 := by omega
 subst this; exact h i hi
attribute [local irreducible] textR
set_option maxHeartbeats 2000000 in
theorem f12 : PureCall Tryz.prog 12 [] (bb true) := by
 have h26 := f26 ⟨[], 1, 1300⟩ 0 1 5 2
 rw [show reachF ⟨[], 1, 1300⟩ 0 1 5 2 = (788, 0) by decide +kernel] at h26
 have h16 := f16 srcB (by unfold B62; decide)
 rw [ref_eq rfB] at h16
 have h24 := f24 srcA 4096 [13315, 6, 29699, 5] (by unfold B62; decide) (by decide) (by decide) knA
 refine pr (by kernel_rfl) Tryz.func12 rfl rfl rfl ?_
 refine W0 ?_
 refine c0f h26 ⟨symV .same .same .same, .same, .same, .same, .same, trivial⟩ rfl ?_
 refine W0 ?_
 refine c0d h16 ⟨.same, trivial⟩ ?_
 refine W0 ?_
 refine CallK.flat [16] h24 ⟨.same, .same, VLe.frzO (g := 0) rfl rfl (CellsA.row (cellsW fun i hi => ?_) rfl rfl rfl) rfl, trivial⟩ rfl ?_
 ·match i, hi with
  | 0, _ => exact .same
  | 1, _ => exact .same
  | 2, _ => exact .same
  | 3, _ => exact .same
 refine W0 ?_
 repeat (first | (refine W1 ?_) | (refine an (by decide +kernel) ?_; conv => whnf) | (refine na (by decide +kernel) ?_; conv => whnf) | fail)
 exact done_bool _ _ rfl rfl rfl
end Go.Proofs.YtkeecnoafjhhdaaGreatDoor
namespace Go.Proofs.YtkeecnoafjhhdaaGreatDoor
open Go Go.AM
attribute [local irreducible] AWP CallK PureCall SubS HeapCallK
def plcO (o : Int) (kd : Nat) (eb fb : Int) : AO := ⟨71, 0, 4, 1, fun _ j => getL [i64 o, u8 kd, i64 eb, i64 fb] j⟩
def plcV (o : Int) (kd : Nat) (eb fb : Int) : AV := .agg 4 (getL [i64 o, u8 kd, i64 eb, i64 fb])
theorem plcO_le {H : Heap} {B : List Nat} {U : List (Nat × Nat)} {o : AO} {a eb fb : Int} {kd : Nat} (e1 : o.E = 71) (e2 : o.gen = 0) (e3 : o.sz = 4) (e4 : o.n = 1) (h0 : VLe H B U (o.f 0 0) (i64 a)) (h1 : VLe H B U (o.f 0 1) (u8 kd)) (h2 : VLe H B U (o.f 0 2) (i64 eb)) (h3 : VLe H B U (o.f 0 3) (i64 fb)) : OLe H B U o (plcO a kd eb fb) :=
 ⟨e1.symm, e2.symm, e3.symm, Nat.le_of_eq e4.symm, fun i j hi hj => by
   have hi0 : i = 0 := Nat.lt_one_iff.mp hi
   subst hi0
   rw [e3] at hj
   match j, hj with
   | 0, _ => exact h0
   | 1, _ => exact h1
   | 2, _ => exact h2
   | 3, _ => exact h3⟩
set_option maxHeartbeats 4000000 in
theorem f9 (l : List Sym) (n : List UInt8) (o : Int) (kd : Nat) (eb fb : Int) (hl : l.length < 2 ^ 46) : PureCall Tryz.prog 9 [.pv (symsP l), st n, plcV o kd eb fb] (bb true) := by
 have h1 := f27 l n (by omega)
 have h2 := f28 l n (by omega)
 generalize findS l n = x at h1 h2
 refine pr (by kernel_rfl) Tryz.func9 rfl rfl rfl ?_
 refine Wd ?_
 refine tr (fun h0 => ?_) fun h0 => ?_
 ·refine Wd ?_
  refine c0f f12 trivial rfl ?_
  refine Wd ?_
  exact done_bool _ _ rfl rfl rfl
 ·refine Wd ?_
  refine c0d h1 ⟨.same, .same, trivial⟩ ?_
  refine Wd ?_
  refine c0d h2 ⟨.same, .same, trivial⟩ ?_
  refine Wd ?_
  refine an (by simp) ?_
  refine Wd ?_
  refine na (by simp) ?_
  refine Wd ?_
  refine awp_loopI (fun i : Nat => i ≤ l.length) (fun i => mkSt 87 [(0, .pv (symsP l)), (5, .ptr 5 0 4 0 0), (11, i64 i)] [(5, plcO o kd eb fb)]) (fun i => l.length - i) 0 (Nat.zero_le _) (SubS.mk [] rfl ⟨⟨_, rfl, .same⟩, ⟨_, rfl, .pq rfl⟩, ⟨_, rfl, .same⟩, trivial⟩ ⟨.inl ⟨_, _, rfl, rfl, rfl, plcO_le rfl rfl rfl rfl .same .same .same .same⟩, trivial⟩) ?_
  intro i hi
  refine pc ?_
  refine Wd ?_
  refine tr (fun hc => ?_) fun hc => ?_
  ·have hlt : i < l.length := by omega
   refine Wd ?_
   refine awp_seq (awp_block ?_)
   refine pc (ex_drawn (by kernel_rfl) ?_)
   refine Wl ?_
   refine ⟨⟨by omega, by omega, rfl⟩, ?_⟩
   refine Wd ?_
   refine Wl ?_
   refine ⟨⟨nle rfl⟩, ?_⟩
   refine Wd ?_
   refine Wl ?_
   rw [Int.toNat_natCast]
   refine ⟨_, [], ⟨_, (f26 (l.getD i sz0) o kd eb fb), ⟨symV .same .same .same,.same,.same,.same,.same, trivial⟩, .inl rfl⟩, ?_⟩
   refine Wd ?_
   refine Wl ?_
   refine AD.nil ⟨by kernel_rfl, ?_⟩
   refine Wd ?_
   refine pc (ex_drawn (by kernel_rfl) ?_)
   refine Wl ?_
   refine ⟨⟨by omega, by omega, rfl⟩, ?_⟩
   refine Wd ?_
   refine Wl ?_
   refine ⟨⟨nle rfl⟩, ?_⟩
   refine Wd ?_
   refine Wl ?_
   rw [Int.toNat_natCast]
   refine ⟨_, [], ⟨_, (f29 (l.getD i sz0) o kd eb fb), ⟨symV .same .same .same,.same,.same,.same,.same, trivial⟩, .inl rfl⟩, ?_⟩
   refine Wd ?_
   refine Wl ?_
   refine AD.nil ⟨by kernel_rfl, ?_⟩
   refine Wd ?_
   refine awp_last tab_ok mixed ?_
   refine Wd ?_
   refine an (by simp) ?_
   refine Wd ?_
   refine na (by simp) ?_
   refine Wd ?_
   refine awp_last tab_ok mixed ?_
   refine Wd ?_
   refine ⟨⟨by unfold inI64; omega⟩, ?_⟩
   refine Wd ?_
   exact ⟨i + 1, hlt, SubS.mk [] rfl ⟨⟨_, rfl, .same⟩, ⟨_, rfl, .pq rfl⟩, ⟨_, rfl, .same⟩, trivial⟩ ⟨.inl ⟨_, _, rfl, rfl, rfl, plcO_le rfl rfl rfl rfl .same .same .same .same⟩, trivial⟩, by omega⟩
  ·refine Wd ?_
   refine c0f f12 trivial rfl ?_
   refine Wd ?_
   exact done_bool _ _ rfl rfl rfl
end Go.Proofs.YtkeecnoafjhhdaaGreatDoor
