/- Part of the proof: what the functions that the law calls compute. -/
import Derived.Test.YtkeecnoafjhhdaaGreatDoorV1
import Derived.Shelf.SlSortCmp.WholeK
import Derived.Shelf.SlSortCmp.NoneTotal
import Derived.Shelf.SlicesG.Cmp
import Derived.Shelf.Small.Bits
import Derived.Shelf.SlGeneric
import Derived.Ground.SlsfProg
import Derived.Ground.SlgcProg
import Derived.Ground.NamesProg
import Derived.Test.YtkeecnoafjhhdaaGreatDoorProg
import Derived.Lib.Small
import Derived.Lib.Walk
import Derived.WalkKit
import Derived.Laws.Cover1
namespace Go.Proofs.YtkeecnoafjhhdaaGreatDoor
open Go Go.AM
attribute [local irreducible] AWP CallK PureCall SubS HeapCallK
theorem opG_le {H : Heap} {B : List Nat} {U : List (Nat × Nat)} {f : Nat → AV} {a : Int} {b : List UInt8} {c : Bool} {k d e : Int} (h0 : VLe H B U (f 0) (u8 a)) (h1 : VLe H B U (f 1) (st b)) (h2 : VLe H B U (f 2) (bb c)) (h3 : VLe H B U (f 3) (u8 k)) (h4 : VLe H B U (f 4) (i64 d)) (h5 : VLe H B U (f 5) (i64 e)) : VLe H B U (.agg 6 f) (opG a b c k d e) := .agg _ _ _ fun i hi => match i, hi with
 | 0, _ => h0
 | 1, _ => h1
 | 2, _ => h2
 | 3, _ => h3
 | 4, _ => h4
 | 5, _ => h5
theorem f26_10 (y : Sym) (e : y.sp = 0) (o eb fb : Int) : PureCall Tryz.prog 26 [y.av, i64 o, u8 (1 : Nat), i64 eb, i64 fb] (rsT (reachF y o 1 eb fb)) := by
 have hs0 : (((y.sp : Nat) : Int) == 0) = true := by rw [e]; rfl
 have hs1 : (((y.sp : Nat) : Int) == 1) = false := by rw [e]; rfl
 have hs2 : (((y.sp : Nat) : Int) == 2) = false := by rw [e]; rfl
 refine pR (by kernel_rfl) Tryz.func26 rfl rfl rfl ?_
 repeat' (first | ((first | refine au ?_ | refine c0f (f55 0 _) ⟨.same, .same, trivial⟩ rfl ?_ | refine c0f (f32 _ _ _ _) ⟨.same, .same, .same, .same, trivial⟩ rfl ?_ | refine c0f (xk43 0 [] false 0 0 1 (by decide)) ⟨opG_le .same .same .same .same .same .same, trivial⟩ rfl ?_ | fail); conv => whnf) | (refine W1 ?_) | ((first | refine af hs0 ?_ | refine ag hs0 ?_ | refine af hs1 ?_ | refine ag hs1 ?_ | refine af hs2 ?_ | refine ag hs2 ?_ | refine an (by decide) ?_ | refine na (by decide) ?_ | refine ⟨⟨by have h1 := valS_le (by assumption : valS 0 y.ad = true); have h2 := valS_le (by assumption : valS 0 o = true); show inI64 (y.ad + o); unfold inI64; omega⟩, ?_⟩ | fail); conv => whnf) | (refine And.intro ?_ ?_ <;> intro hc <;> replace hc := nm hc <;> (conv => whnf)))
 all_goals refine rsE ?_ (by rfl) (by rfl)
 all_goals unfold reachF
 all_goals simp only [lst, mst, e] at *
 all_goals simp [*]
 all_goals omega
theorem f26_11 (y : Sym) (e : y.sp = 1) (o eb fb : Int) : PureCall Tryz.prog 26 [y.av, i64 o, u8 (1 : Nat), i64 eb, i64 fb] (rsT (reachF y o 1 eb fb)) := by
 have hs0 : (((y.sp : Nat) : Int) == 0) = false := by rw [e]; rfl
 have hs1 : (((y.sp : Nat) : Int) == 1) = true := by rw [e]; rfl
 have hs2 : (((y.sp : Nat) : Int) == 2) = false := by rw [e]; rfl
 refine pR (by kernel_rfl) Tryz.func26 rfl rfl rfl ?_
 repeat' (first | ((first | refine au ?_ | refine c0f (f55 0 _) ⟨.same, .same, trivial⟩ rfl ?_ | refine c0f (f32 _ _ _ _) ⟨.same, .same, .same, .same, trivial⟩ rfl ?_ | refine c0f (xk43 0 [] false 0 0 1 (by decide)) ⟨opG_le .same .same .same .same .same .same, trivial⟩ rfl ?_ | fail); conv => whnf) | (refine W1 ?_) | ((first | refine af hs0 ?_ | refine ag hs0 ?_ | refine af hs1 ?_ | refine ag hs1 ?_ | refine af hs2 ?_ | refine ag hs2 ?_ | refine an (by decide) ?_ | refine na (by decide) ?_ | refine ⟨⟨by have h1 := valS_le (by assumption : valS 0 y.ad = true); have h2 := valS_le (by assumption : valS 0 o = true); show inI64 (y.ad + o); unfold inI64; omega⟩, ?_⟩ | fail); conv => whnf) | (refine And.intro ?_ ?_ <;> intro hc <;> replace hc := nm hc <;> (conv => whnf)))
 all_goals refine rsE ?_ (by rfl) (by rfl)
 all_goals unfold reachF
 all_goals simp only [lst, mst, e] at *
 all_goals simp [*]
 all_goals omega
theorem f26_12 (y : Sym) (e : y.sp = 2) (o eb fb : Int) : PureCall Tryz.prog 26 [y.av, i64 o, u8 (1 : Nat), i64 eb, i64 fb] (rsT (reachF y o 1 eb fb)) := by
 have hs0 : (((y.sp : Nat) : Int) == 0) = false := by rw [e]; rfl
 have hs1 : (((y.sp : Nat) : Int) == 1) = false := by rw [e]; rfl
 have hs2 : (((y.sp : Nat) : Int) == 2) = true := by rw [e]; rfl
 refine pR (by kernel_rfl) Tryz.func26 rfl rfl rfl ?_
 repeat' (first | ((first | refine au ?_ | refine c0f (f55 0 _) ⟨.same, .same, trivial⟩ rfl ?_ | refine c0f (f32 _ _ _ _) ⟨.same, .same, .same, .same, trivial⟩ rfl ?_ | refine c0f (xk43 0 [] false 0 0 1 (by decide)) ⟨opG_le .same .same .same .same .same .same, trivial⟩ rfl ?_ | fail); conv => whnf) | (refine W1 ?_) | ((first | refine af hs0 ?_ | refine ag hs0 ?_ | refine af hs1 ?_ | refine ag hs1 ?_ | refine af hs2 ?_ | refine ag hs2 ?_ | refine an (by decide) ?_ | refine na (by decide) ?_ | refine ⟨⟨by have h1 := valS_le (by assumption : valS 0 y.ad = true); have h2 := valS_le (by assumption : valS 0 o = true); show inI64 (y.ad + o); unfold inI64; omega⟩, ?_⟩ | fail); conv => whnf) | (refine And.intro ?_ ?_ <;> intro hc <;> replace hc := nm hc <;> (conv => whnf)))
 all_goals refine rsE ?_ (by rfl) (by rfl)
 all_goals unfold reachF
 all_goals simp only [lst, mst, e] at *
 all_goals simp [*]
 all_goals omega
theorem f26_20 (y : Sym) (e : y.sp = 0) (o eb fb : Int) : PureCall Tryz.prog 26 [y.av, i64 o, u8 (2 : Nat), i64 eb, i64 fb] (rsT (reachF y o 2 eb fb)) := by
 have hs0 : (((y.sp : Nat) : Int) == 0) = true := by rw [e]; rfl
 have hs1 : (((y.sp : Nat) : Int) == 1) = false := by rw [e]; rfl
 have hs2 : (((y.sp : Nat) : Int) == 2) = false := by rw [e]; rfl
 refine pR (by kernel_rfl) Tryz.func26 rfl rfl rfl ?_
 repeat' (first | ((first | refine au ?_ | refine c0f (f55 0 _) ⟨.same, .same, trivial⟩ rfl ?_ | refine c0f (f32 _ _ _ _) ⟨.same, .same, .same, .same, trivial⟩ rfl ?_ | refine c0f (xk43 0 [] false 0 0 2 (by decide)) ⟨opG_le .same .same .same .same .same .same, trivial⟩ rfl ?_ | fail); conv => whnf) | (refine W1 ?_) | ((first | refine af hs0 ?_ | refine ag hs0 ?_ | refine af hs1 ?_ | refine ag hs1 ?_ | refine af hs2 ?_ | refine ag hs2 ?_ | refine an (by decide) ?_ | refine na (by decide) ?_ | refine ⟨⟨by have h1 := valS_le (by assumption : valS 0 y.ad = true); have h2 := valS_le (by assumption : valS 0 o = true); show inI64 (y.ad + o); unfold inI64; omega⟩, ?_⟩ | fail); conv => whnf) | (refine And.intro ?_ ?_ <;> intro hc <;> replace hc := nm hc <;> (conv => whnf)))
 all_goals refine rsE ?_ (by rfl) (by rfl)
 all_goals unfold reachF
 all_goals simp only [lst, mst, e] at *
 all_goals simp [*]
 all_goals omega
theorem f26_21 (y : Sym) (e : y.sp = 1) (o eb fb : Int) : PureCall Tryz.prog 26 [y.av, i64 o, u8 (2 : Nat), i64 eb, i64 fb] (rsT (reachF y o 2 eb fb)) := by
 have hs0 : (((y.sp : Nat) : Int) == 0) = false := by rw [e]; rfl
 have hs1 : (((y.sp : Nat) : Int) == 1) = true := by rw [e]; rfl
 have hs2 : (((y.sp : Nat) : Int) == 2) = false := by rw [e]; rfl
 refine pR (by kernel_rfl) Tryz.func26 rfl rfl rfl ?_
 repeat' (first | ((first | refine au ?_ | refine c0f (f55 0 _) ⟨.same, .same, trivial⟩ rfl ?_ | refine c0f (f32 _ _ _ _) ⟨.same, .same, .same, .same, trivial⟩ rfl ?_ | refine c0f (xk43 0 [] false 0 0 2 (by decide)) ⟨opG_le .same .same .same .same .same .same, trivial⟩ rfl ?_ | fail); conv => whnf) | (refine W1 ?_) | ((first | refine af hs0 ?_ | refine ag hs0 ?_ | refine af hs1 ?_ | refine ag hs1 ?_ | refine af hs2 ?_ | refine ag hs2 ?_ | refine an (by decide) ?_ | refine na (by decide) ?_ | refine ⟨⟨by have h1 := valS_le (by assumption : valS 0 y.ad = true); have h2 := valS_le (by assumption : valS 0 o = true); show inI64 (y.ad + o); unfold inI64; omega⟩, ?_⟩ | fail); conv => whnf) | (refine And.intro ?_ ?_ <;> intro hc <;> replace hc := nm hc <;> (conv => whnf)))
 all_goals refine rsE ?_ (by rfl) (by rfl)
 all_goals unfold reachF
 all_goals simp only [lst, mst, e] at *
 all_goals simp [*]
 all_goals omega
theorem f26_22 (y : Sym) (e : y.sp = 2) (o eb fb : Int) : PureCall Tryz.prog 26 [y.av, i64 o, u8 (2 : Nat), i64 eb, i64 fb] (rsT (reachF y o 2 eb fb)) := by
 have hs0 : (((y.sp : Nat) : Int) == 0) = false := by rw [e]; rfl
 have hs1 : (((y.sp : Nat) : Int) == 1) = false := by rw [e]; rfl
 have hs2 : (((y.sp : Nat) : Int) == 2) = true := by rw [e]; rfl
 refine pR (by kernel_rfl) Tryz.func26 rfl rfl rfl ?_
 repeat' (first | ((first | refine au ?_ | refine c0f (f55 0 _) ⟨.same, .same, trivial⟩ rfl ?_ | refine c0f (f32 _ _ _ _) ⟨.same, .same, .same, .same, trivial⟩ rfl ?_ | refine c0f (xk43 0 [] false 0 0 2 (by decide)) ⟨opG_le .same .same .same .same .same .same, trivial⟩ rfl ?_ | fail); conv => whnf) | (refine W1 ?_) | ((first | refine af hs0 ?_ | refine ag hs0 ?_ | refine af hs1 ?_ | refine ag hs1 ?_ | refine af hs2 ?_ | refine ag hs2 ?_ | refine an (by decide) ?_ | refine na (by decide) ?_ | refine ⟨⟨by have h1 := valS_le (by assumption : valS 0 y.ad = true); have h2 := valS_le (by assumption : valS 0 o = true); show inI64 (y.ad + o); unfold inI64; omega⟩, ?_⟩ | fail); conv => whnf) | (refine And.intro ?_ ?_ <;> intro hc <;> replace hc := nm hc <;> (conv => whnf)))
 all_goals refine rsE ?_ (by rfl) (by rfl)
 all_goals unfold reachF
 all_goals simp only [lst, mst, e] at *
 all_goals simp [*]
 all_goals omega
theorem f26_30 (y : Sym) (e : y.sp = 0) (o eb fb : Int) : PureCall Tryz.prog 26 [y.av, i64 o, u8 (3 : Nat), i64 eb, i64 fb] (rsT (reachF y o 3 eb fb)) := by
 have hs0 : (((y.sp : Nat) : Int) == 0) = true := by rw [e]; rfl
 have hs1 : (((y.sp : Nat) : Int) == 1) = false := by rw [e]; rfl
 have hs2 : (((y.sp : Nat) : Int) == 2) = false := by rw [e]; rfl
 refine pR (by kernel_rfl) Tryz.func26 rfl rfl rfl ?_
 repeat' (first | ((first | refine au ?_ | refine c0f (f55 0 _) ⟨.same, .same, trivial⟩ rfl ?_ | refine c0f (f32 _ _ _ _) ⟨.same, .same, .same, .same, trivial⟩ rfl ?_ | refine c0f (xk43 0 [] false 0 0 3 (by decide)) ⟨opG_le .same .same .same .same .same .same, trivial⟩ rfl ?_ | fail); conv => whnf) | (refine W1 ?_) | ((first | refine af hs0 ?_ | refine ag hs0 ?_ | refine af hs1 ?_ | refine ag hs1 ?_ | refine af hs2 ?_ | refine ag hs2 ?_ | refine an (by decide) ?_ | refine na (by decide) ?_ | refine ⟨⟨by have h1 := valS_le (by assumption : valS 0 y.ad = true); have h2 := valS_le (by assumption : valS 0 o = true); show inI64 (y.ad + o); unfold inI64; omega⟩, ?_⟩ | fail); conv => whnf) | (refine And.intro ?_ ?_ <;> intro hc <;> replace hc := nm hc <;> (conv => whnf)))
 all_goals refine rsE ?_ (by rfl) (by rfl)
 all_goals unfold reachF
 all_goals simp only [lst, mst, e] at *
 all_goals simp [*]
 all_goals omega
theorem f26_31 (y : Sym) (e : y.sp = 1) (o eb fb : Int) : PureCall Tryz.prog 26 [y.av, i64 o, u8 (3 : Nat), i64 eb, i64 fb] (rsT (reachF y o 3 eb fb)) := by
 have hs0 : (((y.sp : Nat) : Int) == 0) = false := by rw [e]; rfl
 have hs1 : (((y.sp : Nat) : Int) == 1) = true := by rw [e]; rfl
 have hs2 : (((y.sp : Nat) : Int) == 2) = false := by rw [e]; rfl
 refine pR (by kernel_rfl) Tryz.func26 rfl rfl rfl ?_
 repeat' (first | ((first | refine au ?_ | refine c0f (f55 0 _) ⟨.same, .same, trivial⟩ rfl ?_ | refine c0f (f32 _ _ _ _) ⟨.same, .same, .same, .same, trivial⟩ rfl ?_ | refine c0f (xk43 0 [] false 0 0 3 (by decide)) ⟨opG_le .same .same .same .same .same .same, trivial⟩ rfl ?_ | fail); conv => whnf) | (refine W1 ?_) | ((first | refine af hs0 ?_ | refine ag hs0 ?_ | refine af hs1 ?_ | refine ag hs1 ?_ | refine af hs2 ?_ | refine ag hs2 ?_ | refine an (by decide) ?_ | refine na (by decide) ?_ | refine ⟨⟨by have h1 := valS_le (by assumption : valS 0 y.ad = true); have h2 := valS_le (by assumption : valS 0 o = true); show inI64 (y.ad + o); unfold inI64; omega⟩, ?_⟩ | fail); conv => whnf) | (refine And.intro ?_ ?_ <;> intro hc <;> replace hc := nm hc <;> (conv => whnf)))
 all_goals refine rsE ?_ (by rfl) (by rfl)
 all_goals unfold reachF
 all_goals simp only [lst, mst, e] at *
 all_goals simp [*]
 all_goals omega
theorem f26_32 (y : Sym) (e : y.sp = 2) (o eb fb : Int) : PureCall Tryz.prog 26 [y.av, i64 o, u8 (3 : Nat), i64 eb, i64 fb] (rsT (reachF y o 3 eb fb)) := by
 have hs0 : (((y.sp : Nat) : Int) == 0) = false := by rw [e]; rfl
 have hs1 : (((y.sp : Nat) : Int) == 1) = false := by rw [e]; rfl
 have hs2 : (((y.sp : Nat) : Int) == 2) = true := by rw [e]; rfl
 refine pR (by kernel_rfl) Tryz.func26 rfl rfl rfl ?_
 repeat' (first | ((first | refine au ?_ | refine c0f (f55 0 _) ⟨.same, .same, trivial⟩ rfl ?_ | refine c0f (f32 _ _ _ _) ⟨.same, .same, .same, .same, trivial⟩ rfl ?_ | refine c0f (xk43 0 [] false 0 0 3 (by decide)) ⟨opG_le .same .same .same .same .same .same, trivial⟩ rfl ?_ | fail); conv => whnf) | (refine W1 ?_) | ((first | refine af hs0 ?_ | refine ag hs0 ?_ | refine af hs1 ?_ | refine ag hs1 ?_ | refine af hs2 ?_ | refine ag hs2 ?_ | refine an (by decide) ?_ | refine na (by decide) ?_ | refine ⟨⟨by have h1 := valS_le (by assumption : valS 0 y.ad = true); have h2 := valS_le (by assumption : valS 0 o = true); show inI64 (y.ad + o); unfold inI64; omega⟩, ?_⟩ | fail); conv => whnf) | (refine And.intro ?_ ?_ <;> intro hc <;> replace hc := nm hc <;> (conv => whnf)))
 all_goals refine rsE ?_ (by rfl) (by rfl)
 all_goals unfold reachF
 all_goals simp only [lst, mst, e] at *
 all_goals simp [*]
 all_goals omega
theorem f26_40 (y : Sym) (e : y.sp = 0) (o eb fb : Int) : PureCall Tryz.prog 26 [y.av, i64 o, u8 (4 : Nat), i64 eb, i64 fb] (rsT (reachF y o 4 eb fb)) := by
 have hs0 : (((y.sp : Nat) : Int) == 0) = true := by rw [e]; rfl
 have hs1 : (((y.sp : Nat) : Int) == 1) = false := by rw [e]; rfl
 have hs2 : (((y.sp : Nat) : Int) == 2) = false := by rw [e]; rfl
 refine pR (by kernel_rfl) Tryz.func26 rfl rfl rfl ?_
 repeat' (first | ((first | refine au ?_ | refine c0f (f55 0 _) ⟨.same, .same, trivial⟩ rfl ?_ | refine c0f (f32 _ _ _ _) ⟨.same, .same, .same, .same, trivial⟩ rfl ?_ | refine c0f (xk43 0 [] false 0 0 4 (by decide)) ⟨opG_le .same .same .same .same .same .same, trivial⟩ rfl ?_ | fail); conv => whnf) | (refine W1 ?_) | ((first | refine af hs0 ?_ | refine ag hs0 ?_ | refine af hs1 ?_ | refine ag hs1 ?_ | refine af hs2 ?_ | refine ag hs2 ?_ | refine an (by decide) ?_ | refine na (by decide) ?_ | refine ⟨⟨by have h1 := valS_le (by assumption : valS 0 y.ad = true); have h2 := valS_le (by assumption : valS 0 o = true); show inI64 (y.ad + o); unfold inI64; omega⟩, ?_⟩ | fail); conv => whnf) | (refine And.intro ?_ ?_ <;> intro hc <;> replace hc := nm hc <;> (conv => whnf)))
 all_goals refine rsE ?_ (by rfl) (by rfl)
 all_goals unfold reachF
 all_goals simp only [lst, mst, e] at *
 all_goals simp [*]
 all_goals omega
theorem f26_41 (y : Sym) (e : y.sp = 1) (o eb fb : Int) : PureCall Tryz.prog 26 [y.av, i64 o, u8 (4 : Nat), i64 eb, i64 fb] (rsT (reachF y o 4 eb fb)) := by
 have hs0 : (((y.sp : Nat) : Int) == 0) = false := by rw [e]; rfl
 have hs1 : (((y.sp : Nat) : Int) == 1) = true := by rw [e]; rfl
 have hs2 : (((y.sp : Nat) : Int) == 2) = false := by rw [e]; rfl
 refine pR (by kernel_rfl) Tryz.func26 rfl rfl rfl ?_
 repeat' (first | ((first | refine au ?_ | refine c0f (f55 0 _) ⟨.same, .same, trivial⟩ rfl ?_ | refine c0f (f32 _ _ _ _) ⟨.same, .same, .same, .same, trivial⟩ rfl ?_ | refine c0f (xk43 0 [] false 0 0 4 (by decide)) ⟨opG_le .same .same .same .same .same .same, trivial⟩ rfl ?_ | fail); conv => whnf) | (refine W1 ?_) | ((first | refine af hs0 ?_ | refine ag hs0 ?_ | refine af hs1 ?_ | refine ag hs1 ?_ | refine af hs2 ?_ | refine ag hs2 ?_ | refine an (by decide) ?_ | refine na (by decide) ?_ | refine ⟨⟨by have h1 := valS_le (by assumption : valS 0 y.ad = true); have h2 := valS_le (by assumption : valS 0 o = true); show inI64 (y.ad + o); unfold inI64; omega⟩, ?_⟩ | fail); conv => whnf) | (refine And.intro ?_ ?_ <;> intro hc <;> replace hc := nm hc <;> (conv => whnf)))
 all_goals refine rsE ?_ (by rfl) (by rfl)
 all_goals unfold reachF
 all_goals simp only [lst, mst, e] at *
 all_goals simp [*]
 all_goals omega
theorem f26_42 (y : Sym) (e : y.sp = 2) (o eb fb : Int) : PureCall Tryz.prog 26 [y.av, i64 o, u8 (4 : Nat), i64 eb, i64 fb] (rsT (reachF y o 4 eb fb)) := by
 have hs0 : (((y.sp : Nat) : Int) == 0) = false := by rw [e]; rfl
 have hs1 : (((y.sp : Nat) : Int) == 1) = false := by rw [e]; rfl
 have hs2 : (((y.sp : Nat) : Int) == 2) = true := by rw [e]; rfl
 refine pR (by kernel_rfl) Tryz.func26 rfl rfl rfl ?_
 repeat' (first | ((first | refine au ?_ | refine c0f (f55 0 _) ⟨.same, .same, trivial⟩ rfl ?_ | refine c0f (f32 _ _ _ _) ⟨.same, .same, .same, .same, trivial⟩ rfl ?_ | refine c0f (xk43 0 [] false 0 0 4 (by decide)) ⟨opG_le .same .same .same .same .same .same, trivial⟩ rfl ?_ | fail); conv => whnf) | (refine W1 ?_) | ((first | refine af hs0 ?_ | refine ag hs0 ?_ | refine af hs1 ?_ | refine ag hs1 ?_ | refine af hs2 ?_ | refine ag hs2 ?_ | refine an (by decide) ?_ | refine na (by decide) ?_ | refine ⟨⟨by have h1 := valS_le (by assumption : valS 0 y.ad = true); have h2 := valS_le (by assumption : valS 0 o = true); show inI64 (y.ad + o); unfold inI64; omega⟩, ?_⟩ | fail); conv => whnf) | (refine And.intro ?_ ?_ <;> intro hc <;> replace hc := nm hc <;> (conv => whnf)))
 all_goals refine rsE ?_ (by rfl) (by rfl)
 all_goals unfold reachF
 all_goals simp only [lst, mst, e] at *
 all_goals simp [*]
 all_goals omega
theorem f26_13 (y : Sym) (e : 2 < y.sp) (o eb fb : Int) : PureCall Tryz.prog 26 [y.av, i64 o, u8 (1 : Nat), i64 eb, i64 fb] (rsT (reachF y o 1 eb fb)) := by
 have hs0 : (((y.sp : Nat) : Int) == 0) = false := beq_eq_false_iff_ne.mpr (by omega)
 have hs1 : (((y.sp : Nat) : Int) == 1) = false := beq_eq_false_iff_ne.mpr (by omega)
 have hs2 : (((y.sp : Nat) : Int) == 2) = false := beq_eq_false_iff_ne.mpr (by omega)
 refine pR (by kernel_rfl) Tryz.func26 rfl rfl rfl ?_
 repeat' (first | (refine W1 ?_) | ((first | refine af hs0 ?_ | refine af hs1 ?_ | refine af hs2 ?_ | refine an (by decide) ?_ | refine na (by decide) ?_ | fail); conv => whnf) | fail)
 exact rsE (by unfold reachF; rw [if_pos (.inr e)]) (by rfl) (by rfl)
theorem f26_23 (y : Sym) (e : 2 < y.sp) (o eb fb : Int) : PureCall Tryz.prog 26 [y.av, i64 o, u8 (2 : Nat), i64 eb, i64 fb] (rsT (reachF y o 2 eb fb)) := by
 have hs0 : (((y.sp : Nat) : Int) == 0) = false := beq_eq_false_iff_ne.mpr (by omega)
 have hs1 : (((y.sp : Nat) : Int) == 1) = false := beq_eq_false_iff_ne.mpr (by omega)
 have hs2 : (((y.sp : Nat) : Int) == 2) = false := beq_eq_false_iff_ne.mpr (by omega)
 refine pR (by kernel_rfl) Tryz.func26 rfl rfl rfl ?_
 repeat' (first | (refine W1 ?_) | ((first | refine af hs0 ?_ | refine af hs1 ?_ | refine af hs2 ?_ | refine an (by decide) ?_ | refine na (by decide) ?_ | fail); conv => whnf) | fail)
 exact rsE (by unfold reachF; rw [if_pos (.inr e)]) (by rfl) (by rfl)
theorem f26_33 (y : Sym) (e : 2 < y.sp) (o eb fb : Int) : PureCall Tryz.prog 26 [y.av, i64 o, u8 (3 : Nat), i64 eb, i64 fb] (rsT (reachF y o 3 eb fb)) := by
 have hs0 : (((y.sp : Nat) : Int) == 0) = false := beq_eq_false_iff_ne.mpr (by omega)
 have hs1 : (((y.sp : Nat) : Int) == 1) = false := beq_eq_false_iff_ne.mpr (by omega)
 have hs2 : (((y.sp : Nat) : Int) == 2) = false := beq_eq_false_iff_ne.mpr (by omega)
 refine pR (by kernel_rfl) Tryz.func26 rfl rfl rfl ?_
 repeat' (first | (refine W1 ?_) | ((first | refine af hs0 ?_ | refine af hs1 ?_ | refine af hs2 ?_ | refine an (by decide) ?_ | refine na (by decide) ?_ | fail); conv => whnf) | fail)
 exact rsE (by unfold reachF; rw [if_pos (.inr e)]) (by rfl) (by rfl)
theorem f26_43 (y : Sym) (e : 2 < y.sp) (o eb fb : Int) : PureCall Tryz.prog 26 [y.av, i64 o, u8 (4 : Nat), i64 eb, i64 fb] (rsT (reachF y o 4 eb fb)) := by
 have hs0 : (((y.sp : Nat) : Int) == 0) = false := beq_eq_false_iff_ne.mpr (by omega)
 have hs1 : (((y.sp : Nat) : Int) == 1) = false := beq_eq_false_iff_ne.mpr (by omega)
 have hs2 : (((y.sp : Nat) : Int) == 2) = false := beq_eq_false_iff_ne.mpr (by omega)
 refine pR (by kernel_rfl) Tryz.func26 rfl rfl rfl ?_
 repeat' (first | (refine W1 ?_) | ((first | refine af hs0 ?_ | refine af hs1 ?_ | refine af hs2 ?_ | refine an (by decide) ?_ | refine na (by decide) ?_ | fail); conv => whnf) | fail)
 exact rsE (by unfold reachF; rw [if_pos (.inr e)]) (by rfl) (by rfl)
theorem f26_n (y : Sym) (o : Int) (kd : Nat) (eb fb : Int) (h : ¬ (1 ≤ kd ∧ kd ≤ 4)) : PureCall Tryz.prog 26 [y.av, i64 o, u8 kd, i64 eb, i64 fb] (rsT (reachF y o kd eb fb)) := by
 have hs1 : (((kd : Nat) : Int) == 1) = false := beq_eq_false_iff_ne.mpr (by omega)
 have hs2 : (((kd : Nat) : Int) == 2) = false := beq_eq_false_iff_ne.mpr (by omega)
 have hs3 : (((kd : Nat) : Int) == 3) = false := beq_eq_false_iff_ne.mpr (by omega)
 have hs4 : (((kd : Nat) : Int) == 4) = false := beq_eq_false_iff_ne.mpr (by omega)
 refine pR (by kernel_rfl) Tryz.func26 rfl rfl rfl ?_
 repeat' (first | ((first | refine au ?_ | refine af hs1 ?_ | refine af hs2 ?_ | refine af hs3 ?_ | refine af hs4 ?_ | fail); conv => whnf) | fail)
 exact rsE (by unfold reachF; rw [if_pos (.inl h)]) (by rfl) (by rfl)
theorem f26 (y : Sym) (o : Int) (kd : Nat) (eb fb : Int) : PureCall Tryz.prog 26 [y.av, i64 o, u8 kd, i64 eb, i64 fb] (rsT (reachF y o kd eb fb)) := by
 by_cases hk : 1 ≤ kd ∧ kd ≤ 4
 ·have h : kd = 1 ∨ kd = 2 ∨ kd = 3 ∨ kd = 4 := by omega
  have h2 : y.sp = 0 ∨ y.sp = 1 ∨ y.sp = 2 ∨ 2 < y.sp := by omega
  rcases h with rfl | rfl | rfl | rfl
  ·rcases h2 with e | e | e | e
   ·exact f26_10 y e o eb fb
   ·exact f26_11 y e o eb fb
   ·exact f26_12 y e o eb fb
   ·exact f26_13 y e o eb fb
  ·rcases h2 with e | e | e | e
   ·exact f26_20 y e o eb fb
   ·exact f26_21 y e o eb fb
   ·exact f26_22 y e o eb fb
   ·exact f26_23 y e o eb fb
  ·rcases h2 with e | e | e | e
   ·exact f26_30 y e o eb fb
   ·exact f26_31 y e o eb fb
   ·exact f26_32 y e o eb fb
   ·exact f26_33 y e o eb fb
  ·rcases h2 with e | e | e | e
   ·exact f26_40 y e o eb fb
   ·exact f26_41 y e o eb fb
   ·exact f26_42 y e o eb fb
   ·exact f26_43 y e o eb fb
 ·exact f26_n y o kd eb fb hk
def ssc (s : List UInt8) (_ : Nat) : PV := .str s
def nmsL : List (List UInt8) := ents.map Ent.nm
theorem nms_len : nmsL.length = 39 := rfl
theorem nms_at {i : Nat} (h : i < 39) : nmsL.getD i [] = (ent (i + 1)).nm := by
 unfold nmsL ent
 rw [List.getD_eq_getElem?_getD, List.getElem?_map, show i + 1 - 1 = i from rfl, List.getD_eq_getElem?_getD]
 rw [List.getElem?_eq_getElem (show i < ents.length from h)]
 rfl
theorem take_sn {α : Type} {l : List α} {i : Nat} {d : α} (h : i < l.length) : l.take (i + 1) = l.take i ++ [l.getD i d] := by
 rw [List.take_add_one, List.getD_eq_getElem?_getD, List.getElem?_eq_getElem h]; rfl
theorem f98 : PureCall Tryz.prog 98 [] (.pv (sqA 9 1 ssc [] nmsL)) := by
 refine pR (by kernel_rfl) Tryz.func98 rfl rfl rfl ?_
 refine ex_loop tab_ok mixed (fun x : Nat × Nat × List (List UInt8) => x.1 ≤ 39 ∧ x.2.2 = nmsL.take x.1) (fun x => mkSt 14 [(1, .row 1000 x.2.1 1 0 x.2.2.length), (2, u8 ((x.1 + 1 : Nat) : Int))] [(1000, rowA 9 1 ssc [] x.2.1 x.2.2)]) (fun x => 39 - x.1) (0, 0, []) ⟨Nat.zero_le _, rfl⟩ (SubS.mkN [] [] rfl rfl rfl ⟨⟨_, rfl, .void _ _ _⟩, ⟨_, rfl, .same⟩, trivial⟩ ⟨.inr (.inl ⟨rfl, rfl⟩), trivial⟩) ?_
 rintro ⟨i, g, X⟩ ⟨hi, hX⟩
 dsimp only at hi hX ⊢
 have hl : X.length = i := by rw [hX, List.length_take, nms_len]; omega
 refine W0 ?_
 refine c0f (xk44 (i + 1)) ⟨.same, trivial⟩ rfl ?_
 refine W0 ?_
 by_cases h : i + 1 ≤ 39
 ·have hb : (decide (0 < i + 1) && decide (i + 1 ≤ 39)) = true := by simp; omega
  rw [hb]
  refine W0 ?_
  refine c0f (xk33 (i + 1) (by omega) h) ⟨.same, trivial⟩ rfl ?_
  refine W0 ?_
  refine ⟨⟨⟨rfl, rfl, rfl, nle rfl⟩, rfl, rfl, rfl, rfl, rfl, rfl, by show (X.length + 1) * 16 ≤ _; omega⟩, ?_⟩
  refine W0 ?_
  refine ⟨(i + 1, g + 1, X ++ [(ent (i + 1)).nm]), ⟨h, by dsimp only; rw [take_sn (d := []) (by rw [nms_len]; omega), hX, nms_at (by omega)]⟩, SubS.mkN [] [(1000, 1000)] rfl rfl rfl ⟨⟨_, rfl, .row _ _ _ _ _ _ _ _ _ rfl rfl rfl (by simp)⟩, ⟨_, rfl, VLe.int (by rw [w8]; omega)⟩, trivial⟩ ⟨.inl ⟨_, _, rfl, rfl, rfl, OLe.snocA rfl rfl rfl rfl rfl fun j hj => ?_⟩, trivial⟩, by dsimp only; omega⟩
  have hj0 : j = 0 := Nat.lt_one_iff.mp hj
  subst hj0
  exact .same
 ·have hb : (decide (0 < i + 1) && decide (i + 1 ≤ 39)) = false := by simp; omega
  rw [hb]
  refine W0 ?_
  have hi39 : i = 39 := by omega
  subst hi39
  have hXn : X = nmsL := by rw [hX, List.take_of_length_le (by rw [nms_len]; omega)]
  subst hXn
  exact ⟨[1000], VLe.frzA rfl rfl rfl⟩
def idxP (j : Nat) : AV × AV := (st (nmsL.getD j []), u8 ((j + 1 : Nat) : Int))
def idxO (i : Nat) : AO := mpO 1 ((List.range i).map idxP)
theorem idx_at {i k : Nat} (hk : k < (idxO i).E) : k < i ∧ (idxO i).f k 0 = st (nmsL.getD k []) ∧ (idxO i).f k 1 = u8 ((k + 1 : Nat) : Int) := by
 have hl : k < i := by have : (idxO i).E = ((List.range i).map idxP).length := rfl; rw [this, List.length_map, List.length_range] at hk; exact hk
 have e : ((List.range i).map idxP).getD k (.nilS, .nilS) = idxP k := by rw [List.getD_eq_getElem?_getD, List.getElem?_map, List.getElem?_eq_getElem (by rw [List.length_range]; exact hl), List.getElem_range]; rfl
 refine ⟨hl, ?_, ?_⟩
 ·show (((List.range i).map idxP).getD k (.nilS, .nilS)).1 = _; rw [e]; rfl
 ·show (((List.range i).map idxP).getD k (.nilS, .nilS)).2 = _; rw [e]; rfl
theorem idx_of {i k : Nat} (hk : k < i) : k < (idxO i).E ∧ (idxO i).f k 0 = st (nmsL.getD k []) ∧ (idxO i).f k 1 = u8 ((k + 1 : Nat) : Int) := by
 have h : k < (idxO i).E := by show k < ((List.range i).map idxP).length; rw [List.length_map, List.length_range]; exact hk
 exact ⟨h, (idx_at h).2⟩
theorem nms_inj : ∀ i, i < 39 → ∀ k, k < 39 → nmsL.getD i [] = nmsL.getD k [] → i = k := by decide +kernel
theorem st_inj {a b : List UInt8} (h : st a = st b) : a = b := by
 unfold st at h
 injection h with h
 injection h
theorem idx_push {H : Heap} {B : List Nat} {U : List (Nat × Nat)} {i : Nat} {v k : AV} (hk : k = st (nmsL.getD i [])) (h : VLe H B U v (u8 ((i + 1 : Nat) : Int))) : ObLe H B U ⟨(idxO i).E + 1, (idxO i).gen, 0, 0, pushV (idxO i).f (idxO i).E k v⟩ (idxO (i + 1)) := by
 subst hk
 have e1 : (idxO i).E = (List.range i).length := List.length_map ..
 rw [e1]
 unfold idxO
 rw [List.range_succ]
 exact mpLeS (p := idxP) (q := idxP) rfl rfl rfl rfl rfl rfl (fun s _ => ⟨.same, .same⟩) .same h
theorem f62 : HeapCallK Tryz.prog 62 [] [] (fun r Hout => r = .obj 200 1 ∧ Hout = [(200, idxO 39)]) (fun _ _ => False) := by
 refine HeapCallK.run tab_ok mixed (by kernel_rfl) Tryz.func62 rfl rfl rfl ?_
 refine W0 ?_
 refine c0d f98 trivial ?_
 refine W0 ?_
 refine ex_loop tab_ok mixed (fun x : Nat => x ≤ 39) (fun x => mkSt 19 [(1, .obj 1000 1), (5, .pv (sqA 9 1 ssc [] nmsL)), (6, i64 39), (7, i64 (x : Int))] [(1000, idxO x)]) (fun x => 39 - x) 0 (Nat.zero_le _) (SubS.mkN [] [(1000, 4)] rfl rfl rfl ⟨⟨_, rfl, .obj _ _ _ _ rfl rfl⟩, ⟨_, rfl, .same⟩, ⟨_, rfl, .same⟩, ⟨_, rfl, .same⟩, trivial⟩ ⟨.inr (.inr ⟨_, _, rfl, rfl, rfl, mpLe0 rfl rfl rfl rfl fun _ _ _ _ => rfl⟩), trivial⟩) ?_
 intro i hi
 refine W0 ?_
 refine tr (fun hc => ?_) fun hc => ?_
 ·have hlt : i < 39 := by omega
  refine W0 ?_
  refine ⟨⟨by omega, by show (i : Int) < 39; omega, rfl⟩, ?_⟩
  refine W0 ?_
  refine ⟨⟨nle rfl⟩, ?_⟩
  refine W0 ?_
  refine ⟨⟨by unfold inI64; omega⟩, ?_⟩
  refine W0 ?_
  refine ⟨fun k hk he => ?_, fun _ => ?_⟩
  ·obtain ⟨h1, h2, _⟩ := idx_at hk
   exact absurd (nms_inj k (by omega) i hlt (st_inj (h2.symm.trans he))) (by omega)
  ·refine W0 ?_
   refine ⟨⟨by unfold inI64; omega⟩, ?_⟩
   refine W0 ?_
   refine ⟨i + 1, hlt, SubS.mkN [] [(1000, 1000)] rfl rfl rfl ⟨⟨_, rfl, .obj _ _ _ _ rfl rfl⟩, ⟨_, rfl, .same⟩, ⟨_, rfl, .same⟩, ⟨_, rfl, .same⟩, trivial⟩ ⟨.inr (.inr ⟨_, _, rfl, rfl, rfl, idx_push rfl (VLe.int (by rw [w8]; omega))⟩), trivial⟩, by omega⟩
 ·refine W0 ?_
  have h39 : i = 39 := by omega
  subst h39
  exact ⟨_, _, ⟨rfl, rfl⟩, SubS.mkN [] [(200, 1000)] rfl rfl rfl ⟨⟨_, rfl, .obj _ _ _ _ rfl rfl⟩, trivial⟩ ⟨.inr (.inr ⟨_, _, rfl, rfl, rfl, mpLeM fun _ _ => ⟨.same, .same⟩⟩), trivial⟩⟩
theorem code_at : ∀ k, k < 39 → codeOf (nmsL.getD k []) = k + 1 := by decide +kernel
theorem codeF_no {n : List UInt8} : ∀ (es : List Ent) (c : Nat), (∀ e ∈ es, e.nm ≠ n) → codeF n es c = 0
 | [], _, _ => rfl
 | e :: es, c, h => by
   show (if e.nm = n then c else codeF n es (c + 1)) = 0
   rw [if_neg (h e List.mem_cons_self)]
   exact codeF_no es (c + 1) fun e' h' => h e' (List.mem_cons_of_mem _ h')
theorem code_no {n : List UInt8} (h : ∀ k, k < 39 → nmsL.getD k [] ≠ n) : codeOf n = 0 :=
 codeF_no ents 1 fun e he hn => by
  obtain ⟨i, hi, rfl⟩ := List.getElem_of_mem he
  refine h i hi ?_
  unfold nmsL
  rw [List.getD_eq_getElem?_getD, List.getElem?_map, List.getElem?_eq_getElem hi]
  exact hn
theorem code_cases (n : List UInt8) : codeOf n = 0 ∨ (1 ≤ codeOf n ∧ codeOf n ≤ 39 ∧ nmsL.getD (codeOf n - 1) [] = n) := by
 by_cases h : ∃ k, k < 39 ∧ nmsL.getD k [] = n
 ·obtain ⟨k, hk, rfl⟩ := h
  rw [code_at k hk]
  exact .inr ⟨by omega, by omega, rfl⟩
 ·exact .inl (code_no fun k hk e => h ⟨k, hk, e⟩)
def opZ : AV := opG 0 [] false 0 0 0
def findV (n : List UInt8) : AV := tupV [if codeOf n = 0 then opZ else opV (codeOf n), i64 (if codeOf n = 0 then 7 else 0)]
theorem f50_0 : PureCall Tryz.prog 50 [u8 0] (tupV [opZ, i64 7]) := by
 refine pR (by kernel_rfl) Tryz.func50 rfl rfl rfl ?_
 refine c0f (xk44 0) ⟨.same, trivial⟩ rfl ?_
 refine W0 ?_
 have hb : (decide (0 < 0) && decide (0 ≤ 39)) = false := rfl
 rw [hb]
 refine W0 ?_
 exact done_tup [opZ, i64 7] [] rfl ⟨opG_le .same .same .same .same .same .same, .same, trivial⟩
theorem f31 (n : List UInt8) : PureCall Tryz.prog 31 [st n] (findV n) := by
 refine pR (by kernel_rfl) Tryz.func31 rfl rfl rfl ?_
 refine CallK.heapK f62 [] [] rfl rfl rfl trivial trivial 2000 rfl (fun r Hout hr => ?_) (fun r Hout hr => hr.elim)
 obtain ⟨rfl, rfl⟩ := hr
 refine W0 ?_
 have hR : ∀ k j, (AO.ren (renI [] 2000) (idxO 39)).f k j = AV.ren (renI [] 2000) ((idxO 39).f k j) := fun _ _ => rfl
 refine ⟨fun k hk he => ?_, fun hno => ?_⟩
 ·obtain ⟨h1, h2, h3⟩ := idx_at (i := 39) hk
  rw [hR, h2] at he
  have hn : nmsL.getD k [] = n := st_inj he
  have hc : codeOf n = k + 1 := by rw [← hn]; exact code_at k h1
  rw [hR, h3]
  refine W0 ?_
  refine c0f (xk32 (k + 1) (by omega) (by omega)) ⟨.same, trivial⟩ rfl ?_
  refine W0 ?_
  have e : findV n = tupV [opV (k + 1), i64 0] := by unfold findV; rw [hc, if_neg (Nat.succ_ne_zero k), if_neg (Nat.succ_ne_zero k)]
  rw [e]
  exact done_tup [opV (k + 1), i64 0] [] rfl ⟨opG_le .same .same .same .same .same .same, .same, trivial⟩
 ·have hc : codeOf n = 0 := code_no fun k hk e => by
   obtain ⟨h1, h2, _⟩ := idx_of (i := 39) hk
   exact hno k h1 (by rw [hR, h2, e]; rfl)
  refine W0 ?_
  refine c0f f50_0 ⟨.same, trivial⟩ rfl ?_
  refine W0 ?_
  have e : findV n = tupV [opZ, i64 7] := by unfold findV; rw [hc, if_pos rfl, if_pos rfl]
  rw [e]
  exact done_tup [opZ, i64 7] [] rfl ⟨opG_le .same .same .same .same .same .same, .same, trivial⟩
def opR (c : Nat) : OpR := ⟨c, (ent c).nm, decide (19 < c), (ent c).k, bitN (ent c).k, (ent c).c⟩
def oprK (k : Nat) (n : List UInt8) (mark : Bool) : Opr :=
 match k with
 | 0 => ⟨frmK 0 [], 0, some 105, none, op0⟩
 | 1 => ⟨frmK 1 [], 0, some 106, none, op0⟩
 | 2 => ⟨frmK 2 [], 0, some 107, none, op0⟩
 | 3 => ⟨frmK 3 [], 0, some 108, none, op0⟩
 | 4 => ⟨frmK 4 [], 0, some 109, none, op0⟩
 | 5 => ⟨frmK 5 [], 0, some 110, none, op0⟩
 | 6 => ⟨frmK 6 [], 1, none, some 111, op0⟩
 | 7 => ⟨frmK 7 [], 1, none, some 112, op0⟩
 | 8 => ⟨frmK 8 [], 1, none, some 115, op0⟩
 | 9 => ⟨frmK 9 [], 1, none, some 117, op0⟩
 | 10 => ⟨frmK 10 [], 1, none, some 119, op0⟩
 | _ => ⟨frmK 11 n, (cntK 11 n mark : Nat), none, some 120, opR (codeOf n)⟩
def oprF (n : List UInt8) (mark : Bool) : Opr := oprK (opK n) n mark
theorem dir_at : ∀ i, i < 11 → opK (dirL.getD i ([], oprK 0 [] false)).1 = i := by decide +kernel
theorem opK_no {n : List UInt8} (h : ∀ i, i < 11 → (dirL.getD i ([], oprK 0 [] false)).1 ≠ n) : opK n = if codeOf n ≠ 0 then 11 else 12 := by
 have h0 : n ≠ nBANK := fun e => h 0 (by decide) e.symm
 have h1 : n ≠ nLOC := fun e => h 1 (by decide) e.symm
 have h2 : n ≠ nEBANK := fun e => h 2 (by decide) e.symm
 have h3 : n ≠ nELOC := fun e => h 3 (by decide) e.symm
 have h4 : n ≠ nERASE := fun e => h 4 (by decide) e.symm
 have h5 : n ≠ nEQUALS := fun e => h 5 (by decide) e.symm
 have h6 : n ≠ nOCT := fun e => h 6 (by decide) e.symm
 have h7 : n ≠ nDEC := fun e => h 7 (by decide) e.symm
 have h8 : n ≠ nADRES := fun e => h 8 (by decide) e.symm
 have h9 : n ≠ nCADR := fun e => h 9 (by decide) e.symm
 have h10 : n ≠ nECADR := fun e => h 10 (by decide) e.symm
 unfold opK
 rw [if_neg h0, if_neg h1, if_neg h2, if_neg h3, if_neg h4, if_neg h5, if_neg h6, if_neg h7, if_neg h8, if_neg h9, if_neg h10]
theorem oprV {H : Heap} {B : List Nat} {U : List (Nat × Nat)} {f : Nat → AV} {o : Opr} (h0 : VLe H B U (f 0) (bb o.f.no)) (h1 : VLe H B U (f 1) (bb o.f.nu)) (h2 : VLe H B U (f 2) (bb o.f.sy)) (h3 : VLe H B U (f 3) (i64 o.f.lo)) (h4 : VLe H B U (f 4) (i64 o.f.hi)) (h5 : VLe H B U (f 5) (i64 o.f.lb)) (h6 : VLe H B U (f 6) (i64 o.ws)) (h7 : VLe H B U (f 7) (ofn o.pr)) (h8 : VLe H B U (f 8) (ofn o.wd))
  (h9 : VLe H B U (f 9) (u8 o.op.a)) (h10 : VLe H B U (f 10) (st o.op.b)) (h11 : VLe H B U (f 11) (bb o.op.c)) (h12 : VLe H B U (f 12) (u8 o.op.k)) (h13 : VLe H B U (f 13) (i64 o.op.d)) (h14 : VLe H B U (f 14) (i64 o.op.e)) : VLe H B U (.agg 15 f) o.av := .agg _ _ _ fun i hi => match i, hi with
 | 0, _ => h0
 | 1, _ => h1
 | 2, _ => h2
 | 3, _ => h3
 | 4, _ => h4
 | 5, _ => h5
 | 6, _ => h6
 | 7, _ => h7
 | 8, _ => h8
 | 9, _ => h9
 | 10, _ => h10
 | 11, _ => h11
 | 12, _ => h12
 | 13, _ => h13
 | 14, _ => h14
theorem fn0_le {H : Heap} {B : List Nat} {U : List (Nat × Nat)} {fn : Fn} {f g : Nat → AV} : VLe H B U (.func fn 0 f 0 g) (.func fn 0 (getL []) 0 (getL [])) := .func _ _ _ _ _ _ _ (fun i hi => absurd hi (Nat.not_lt_zero i)) (fun i hi => absurd hi (Nat.not_lt_zero i))
theorem ops_at {i : Nat} {n : List UInt8} (hi : i < opsO.E) (h : opsO.f i 0 = st n) : i < 11 ∧ (dirL.getD i ([], oprK 0 [] false)).1 = n ∧ opsO.f i 1 = (oprK i [] false).av := by
 have hl : i < 11 := hi
 have key : ∀ i, i < 11 → opsO.f i 0 = st (dirL.getD i ([], oprK 0 [] false)).1 ∧ opsO.f i 1 = (oprK i [] false).av := by
  intro i hi
  match i, hi with
  | 0, _ => exact ⟨rfl, rfl⟩
  | 1, _ => exact ⟨rfl, rfl⟩
  | 2, _ => exact ⟨rfl, rfl⟩
  | 3, _ => exact ⟨rfl, rfl⟩
  | 4, _ => exact ⟨rfl, rfl⟩
  | 5, _ => exact ⟨rfl, rfl⟩
  | 6, _ => exact ⟨rfl, rfl⟩
  | 7, _ => exact ⟨rfl, rfl⟩
  | 8, _ => exact ⟨rfl, rfl⟩
  | 9, _ => exact ⟨rfl, rfl⟩
  | 10, _ => exact ⟨rfl, rfl⟩
 exact ⟨hl, st_inj ((key i hl).1.symm.trans h), (key i hl).2⟩
theorem ops_of {i : Nat} (hi : i < 11) : i < opsO.E ∧ opsO.f i 0 = st (dirL.getD i ([], oprK 0 [] false)).1 := by
 match i, hi with
 | 0, _ => exact ⟨nle rfl, rfl⟩
 | 1, _ => exact ⟨nle rfl, rfl⟩
 | 2, _ => exact ⟨nle rfl, rfl⟩
 | 3, _ => exact ⟨nle rfl, rfl⟩
 | 4, _ => exact ⟨nle rfl, rfl⟩
 | 5, _ => exact ⟨nle rfl, rfl⟩
 | 6, _ => exact ⟨nle rfl, rfl⟩
 | 7, _ => exact ⟨nle rfl, rfl⟩
 | 8, _ => exact ⟨nle rfl, rfl⟩
 | 9, _ => exact ⟨nle rfl, rfl⟩
 | 10, _ => exact ⟨nle rfl, rfl⟩
def opC (o : OpR) : Nat → AV := getL [u8 o.a, st o.b, bb o.c, u8 o.k, i64 o.d, i64 o.e]
def opB (o : OpR) : AO := ⟨45, 0, 6, 1, fun _ j => opC o j⟩
def oprB (o : Opr) : AO := ⟨144, 0, 15, 1, fun _ j => o.c j⟩
theorem opB_le {H : Heap} {B : List Nat} {U : List (Nat × Nat)} {o : AO} {x : OpR} (e1 : o.E = 45) (e2 : o.gen = 0) (e3 : o.sz = 6) (e4 : o.n = 1) (h0 : VLe H B U (o.f 0 0) (u8 x.a)) (h1 : VLe H B U (o.f 0 1) (st x.b)) (h2 : VLe H B U (o.f 0 2) (bb x.c)) (h3 : VLe H B U (o.f 0 3) (u8 x.k)) (h4 : VLe H B U (o.f 0 4) (i64 x.d)) (h5 : VLe H B U (o.f 0 5) (i64 x.e)) : OLe H B U o (opB x) :=
 ⟨e1.symm, e2.symm, e3.symm, Nat.le_of_eq e4.symm, fun i j hi hj => by
   have hi0 : i = 0 := Nat.lt_one_iff.mp hi
   subst hi0
   rw [e3] at hj
   match j, hj with
   | 0, _ => exact h0
   | 1, _ => exact h1
   | 2, _ => exact h2
   | 3, _ => exact h3
   | 4, _ => exact h4
   | 5, _ => exact h5⟩
theorem oprB_le {H : Heap} {B : List Nat} {U : List (Nat × Nat)} {x : AO} {o : Opr} (e1 : x.E = 144) (e2 : x.gen = 0) (e3 : x.sz = 15) (e4 : x.n = 1) (h0 : VLe H B U (x.f 0 0) (bb o.f.no)) (h1 : VLe H B U (x.f 0 1) (bb o.f.nu)) (h2 : VLe H B U (x.f 0 2) (bb o.f.sy)) (h3 : VLe H B U (x.f 0 3) (i64 o.f.lo)) (h4 : VLe H B U (x.f 0 4) (i64 o.f.hi)) (h5 : VLe H B U (x.f 0 5) (i64 o.f.lb)) (h6 : VLe H B U (x.f 0 6) (i64 o.ws)) (h7 : VLe H B U (x.f 0 7) (ofn o.pr)) (h8 : VLe H B U (x.f 0 8) (ofn o.wd))
  (h9 : VLe H B U (x.f 0 9) (u8 o.op.a)) (h10 : VLe H B U (x.f 0 10) (st o.op.b)) (h11 : VLe H B U (x.f 0 11) (bb o.op.c)) (h12 : VLe H B U (x.f 0 12) (u8 o.op.k)) (h13 : VLe H B U (x.f 0 13) (i64 o.op.d)) (h14 : VLe H B U (x.f 0 14) (i64 o.op.e)) : OLe H B U x (oprB o) :=
 ⟨e1.symm, e2.symm, e3.symm, Nat.le_of_eq e4.symm, fun i j hi hj => by
   have hi0 : i = 0 := Nat.lt_one_iff.mp hi
   subst hi0
   rw [e3] at hj
   match j, hj with
   | 0, _ => exact h0
   | 1, _ => exact h1
   | 2, _ => exact h2
   | 3, _ => exact h3
   | 4, _ => exact h4
   | 5, _ => exact h5
   | 6, _ => exact h6
   | 7, _ => exact h7
   | 8, _ => exact h8
   | 9, _ => exact h9
   | 10, _ => exact h10
   | 11, _ => exact h11
   | 12, _ => exact h12
   | 13, _ => exact h13
   | 14, _ => exact h14⟩
def fndS (o : Opr) (c : OpR) (s : AsS) (l : List Sym) (w : List (Nat × Nat)) : ASt := mkStK 50 [(0, .ptr 100 0 44 0 0), (4, .ptr 4 0 15 0 0), (7, .ptr 7 0 6 0 0), (9, .ptr 9 0 15 0 0)] ((4, oprB (⟨⟨false, false, false, 0, 0, 0⟩, 0, none, none, op0⟩ : Opr)) :: (7, opB c) :: (9, oprB o) :: asH s l w) [100, 101, 102, 103]
set_option maxHeartbeats 2000000 in
theorem f68 (s : AsS) (l : List Sym) (w : List (Nat × Nat)) (n : List UInt8) : HeapCallK Tryz.prog 68 [.ptr 100 0 44 0 0, st n] (asH s l w)
  (fun r Hout => opK n ≠ 12 ∧ r = (oprF n s.mark).av ∧ Hout = asH s l w) (fun r Hout => opK n = 12 ∧ r = faultV 7 ∧ Hout = asH s l w) := by
 refine HeapCallK.body tab_ok (by kernel_rfl) Tryz.func68 rfl rfl rfl ?_
 refine pW ?_
 refine pW ?_
 refine ⟨fun i hi he => ?_, fun hno => ?_⟩
 ·obtain ⟨h11, hn, e1⟩ := ops_at hi he
  rw [e1]
  have hk : opK n = i := by rw [← hn]; exact dir_at i h11
  have hf : oprF n s.mark = oprK i n s.mark := by unfold oprF; rw [hk]
  clear e1 he hi
  match i, h11 with
  | 0, _ =>
    refine W0 ?_
    rw [hf]
    exact ⟨_, _, ⟨by rw [hk]; decide, rfl, rfl⟩, SubS.mkK [] rfl ⟨⟨_, rfl, oprV .same .same .same .same .same .same .same fn0_le .same .same .same .same .same .same .same⟩, trivial⟩ (allAsz rfl rfl rfl rfl rfl (as_keep rfl rfl rfl) (sym_keep) (wrd_keep))⟩
  | 1, _ =>
    refine W0 ?_
    rw [hf]
    exact ⟨_, _, ⟨by rw [hk]; decide, rfl, rfl⟩, SubS.mkK [] rfl ⟨⟨_, rfl, oprV .same .same .same .same .same .same .same fn0_le .same .same .same .same .same .same .same⟩, trivial⟩ (allAsz rfl rfl rfl rfl rfl (as_keep rfl rfl rfl) (sym_keep) (wrd_keep))⟩
  | 2, _ =>
    refine W0 ?_
    rw [hf]
    exact ⟨_, _, ⟨by rw [hk]; decide, rfl, rfl⟩, SubS.mkK [] rfl ⟨⟨_, rfl, oprV .same .same .same .same .same .same .same fn0_le .same .same .same .same .same .same .same⟩, trivial⟩ (allAsz rfl rfl rfl rfl rfl (as_keep rfl rfl rfl) (sym_keep) (wrd_keep))⟩
  | 3, _ =>
    refine W0 ?_
    rw [hf]
    exact ⟨_, _, ⟨by rw [hk]; decide, rfl, rfl⟩, SubS.mkK [] rfl ⟨⟨_, rfl, oprV .same .same .same .same .same .same .same fn0_le .same .same .same .same .same .same .same⟩, trivial⟩ (allAsz rfl rfl rfl rfl rfl (as_keep rfl rfl rfl) (sym_keep) (wrd_keep))⟩
  | 4, _ =>
    refine W0 ?_
    rw [hf]
    exact ⟨_, _, ⟨by rw [hk]; decide, rfl, rfl⟩, SubS.mkK [] rfl ⟨⟨_, rfl, oprV .same .same .same .same .same .same .same fn0_le .same .same .same .same .same .same .same⟩, trivial⟩ (allAsz rfl rfl rfl rfl rfl (as_keep rfl rfl rfl) (sym_keep) (wrd_keep))⟩
  | 5, _ =>
    refine W0 ?_
    rw [hf]
    exact ⟨_, _, ⟨by rw [hk]; decide, rfl, rfl⟩, SubS.mkK [] rfl ⟨⟨_, rfl, oprV .same .same .same .same .same .same .same fn0_le .same .same .same .same .same .same .same⟩, trivial⟩ (allAsz rfl rfl rfl rfl rfl (as_keep rfl rfl rfl) (sym_keep) (wrd_keep))⟩
  | 6, _ =>
    refine W0 ?_
    rw [hf]
    exact ⟨_, _, ⟨by rw [hk]; decide, rfl, rfl⟩, SubS.mkK [] rfl ⟨⟨_, rfl, oprV .same .same .same .same .same .same .same .same fn0_le .same .same .same .same .same .same⟩, trivial⟩ (allAsz rfl rfl rfl rfl rfl (as_keep rfl rfl rfl) (sym_keep) (wrd_keep))⟩
  | 7, _ =>
    refine W0 ?_
    rw [hf]
    exact ⟨_, _, ⟨by rw [hk]; decide, rfl, rfl⟩, SubS.mkK [] rfl ⟨⟨_, rfl, oprV .same .same .same .same .same .same .same .same fn0_le .same .same .same .same .same .same⟩, trivial⟩ (allAsz rfl rfl rfl rfl rfl (as_keep rfl rfl rfl) (sym_keep) (wrd_keep))⟩
  | 8, _ =>
    refine W0 ?_
    rw [hf]
    exact ⟨_, _, ⟨by rw [hk]; decide, rfl, rfl⟩, SubS.mkK [] rfl ⟨⟨_, rfl, oprV .same .same .same .same .same .same .same .same fn0_le .same .same .same .same .same .same⟩, trivial⟩ (allAsz rfl rfl rfl rfl rfl (as_keep rfl rfl rfl) (sym_keep) (wrd_keep))⟩
  | 9, _ =>
    refine W0 ?_
    rw [hf]
    exact ⟨_, _, ⟨by rw [hk]; decide, rfl, rfl⟩, SubS.mkK [] rfl ⟨⟨_, rfl, oprV .same .same .same .same .same .same .same .same fn0_le .same .same .same .same .same .same⟩, trivial⟩ (allAsz rfl rfl rfl rfl rfl (as_keep rfl rfl rfl) (sym_keep) (wrd_keep))⟩
  | 10, _ =>
    refine W0 ?_
    rw [hf]
    exact ⟨_, _, ⟨by rw [hk]; decide, rfl, rfl⟩, SubS.mkK [] rfl ⟨⟨_, rfl, oprV .same .same .same .same .same .same .same .same fn0_le .same .same .same .same .same .same⟩, trivial⟩ (allAsz rfl rfl rfl rfl rfl (as_keep rfl rfl rfl) (sym_keep) (wrd_keep))⟩
 ·have hk : opK n = if codeOf n ≠ 0 then 11 else 12 := opK_no fun i hi e => by
   obtain ⟨h1, h2⟩ := ops_of hi
   exact hno i h1 (by rw [h2, e])
  refine W0 ?_
  refine pW ?_
  have hF := f31 n
  rcases code_cases n with hc | ⟨hc1, hc2, hcn⟩
  ·rw [if_neg (by rw [hc]; decide)] at hk
   have e : findV n = tupV [opZ, i64 7] := by unfold findV; rw [hc, if_pos rfl, if_pos rfl]
   rw [e] at hF
   refine c0f hF ⟨.same, trivial⟩ rfl ?_
   refine W0 ?_
   refine pW ?_
   refine CallK.heapK (f101 false _) [] [] rfl rfl rfl ⟨.same, .same, trivial⟩ trivial 2000 rfl (fun r Hout hr => absurd hr.1 (by decide)) (fun r Hout hr => ?_)
   rcases hr with ⟨_, rfl, rfl⟩
   refine W0 ?_
   exact ⟨rfl, _, _, ⟨hk, rfl, rfl⟩, SubS.mkK [] rfl ⟨⟨_, rfl, .same⟩, trivial⟩ (allAsz rfl rfl rfl rfl rfl (as_keep rfl rfl rfl) (sym_keep) (wrd_keep))⟩
  ·have hc0 : codeOf n ≠ 0 := by omega
   rw [if_pos hc0] at hk
   have e : findV n = tupV [opV (codeOf n), i64 0] := by unfold findV; rw [if_neg hc0, if_neg hc0]
   rw [e] at hF
   refine c0f hF ⟨.same, trivial⟩ rfl ?_
   refine W0 ?_
   refine pW ?_
   refine CallK.heapK (f101 true _) [] [] rfl rfl rfl ⟨.same, .same, trivial⟩ trivial 2000 rfl (fun r Hout hr => ?_) (fun r Hout hr => absurd hr.1 (by decide))
   rcases hr with ⟨_, rfl, rfl⟩
   refine W0 ?_
   have hE : ∀ (F : Frm) (ws : Nat), frmK 11 n = F → cntK 11 n s.mark = ws → oprF n s.mark = ⟨F, ws, none, some 120, opR (codeOf n)⟩ := fun F ws h1 h2 => by
    unfold oprF; rw [hk]; show (⟨frmK 11 n, (cntK 11 n s.mark : Nat), none, some 120, opR (codeOf n)⟩ : Opr) = _; rw [h1, h2]
   have hF1 : (ent (codeOf n)).k = 0 → frmK 11 n = ⟨true, false, false, 1, 0, 0⟩ := fun h => by show (if (ent (codeOf n)).k = 0 then _ else _) = _; rw [if_pos h]
   have hF2 : ¬ (ent (codeOf n)).k = 0 → frmK 11 n = ⟨false, true, true, 1, -65535, 65535⟩ := fun h => by show (if (ent (codeOf n)).k = 0 then _ else _) = _; rw [if_neg h]
   have hC : (19 < codeOf n ∧ s.mark = false) → cntK 11 n s.mark = 2 := fun h => by unfold cntK; rw [if_neg (by decide), if_pos ⟨rfl, h⟩]
   have hC1 : ¬ (19 < codeOf n ∧ s.mark = false) → cntK 11 n s.mark = 1 := fun h => by unfold cntK; rw [if_neg (by decide), if_neg (fun h' => h h'.2)]
   generalize hcc : codeOf n = c at *
   refine awp_pieceM tab_ok mixed (fndS ⟨⟨true, false, false, 1, 0, 0⟩, 1, none, some 120, opR c⟩ (opR c) s l w) True (fun K hK => ?_) (fun _ => ?_)
   ·refine W0 ?_
    exact hK _ trivial (SubS.mkK [] rfl ⟨⟨_, rfl, .pq rfl⟩, ⟨_, rfl, .pq rfl⟩, ⟨_, rfl, .pq rfl⟩, ⟨_, rfl, .pq rfl⟩, trivial⟩ ⟨.inl ⟨_, _, rfl, rfl, rfl, oprB_le rfl rfl rfl rfl .same .same .same .same .same .same .same .same .same .same .same .same .same .same .same⟩, .inl ⟨_, _, rfl, rfl, rfl, opB_le rfl rfl rfl rfl .same .same .same .same .same .same⟩, .inl ⟨_, _, rfl, rfl, rfl, oprB_le rfl rfl rfl rfl .same .same .same .same .same .same .same .same fn0_le .same .same .same .same .same .same⟩, allAsz rfl rfl rfl rfl rfl (as_keep rfl rfl rfl) sym_keep wrd_keep⟩)
   refine awp_cut (fun F : Frm => fndS ⟨F, 1, none, some 120, opR c⟩ (opR c) s l w) (fun F => frmK 11 n = F) (fun K hK => ?_) (fun F hF' => ?_)
   ·refine awp_last tab_ok mixed ?_
    unfold fndS
    refine W0 ?_
    refine tr (fun h1 => ?_) fun h1 => ?_
    ·refine W0 ?_
     have h1 : ¬ ((ent c).k : Int) = 0 := h1
     exact hK _ _ (hF2 (by omega)) (SubS.mkK [] rfl ⟨⟨_, rfl, .pq rfl⟩, ⟨_, rfl, .pq rfl⟩, ⟨_, rfl, .pq rfl⟩, ⟨_, rfl, .pq rfl⟩, trivial⟩ ⟨.inl ⟨_, _, rfl, rfl, rfl, oprB_le rfl rfl rfl rfl .same .same .same .same .same .same .same .same .same .same .same .same .same .same .same⟩, .inl ⟨_, _, rfl, rfl, rfl, opB_le rfl rfl rfl rfl .same .same .same .same .same .same⟩, .inl ⟨_, _, rfl, rfl, rfl, oprB_le rfl rfl rfl rfl .same .same .same .same .same .same .same .same fn0_le .same .same .same .same .same .same⟩, allAsz rfl rfl rfl rfl rfl (as_keep rfl rfl rfl) sym_keep wrd_keep⟩)
    ·refine W0 ?_
     have h1 : ((ent c).k : Int) = 0 := h1
     exact hK _ _ (hF1 (by omega)) (SubS.mkK [] rfl ⟨⟨_, rfl, .pq rfl⟩, ⟨_, rfl, .pq rfl⟩, ⟨_, rfl, .pq rfl⟩, ⟨_, rfl, .pq rfl⟩, trivial⟩ ⟨.inl ⟨_, _, rfl, rfl, rfl, oprB_le rfl rfl rfl rfl .same .same .same .same .same .same .same .same .same .same .same .same .same .same .same⟩, .inl ⟨_, _, rfl, rfl, rfl, opB_le rfl rfl rfl rfl .same .same .same .same .same .same⟩, .inl ⟨_, _, rfl, rfl, rfl, oprB_le rfl rfl rfl rfl .same .same .same .same .same .same .same .same fn0_le .same .same .same .same .same .same⟩, allAsz rfl rfl rfl rfl rfl (as_keep rfl rfl rfl) sym_keep wrd_keep⟩)
   refine awp_cut (fun ws : Nat => fndS ⟨F, ws, none, some 120, opR c⟩ (opR c) s l w) (fun ws => cntK 11 n s.mark = ws) (fun K hK => ?_) (fun ws hws => ?_)
   ·refine awp_last tab_ok mixed ?_
    unfold fndS
    refine W0 ?_
    refine tr (fun h2 => ?_) fun h2 => ?_
    ·refine W0 ?_
     refine tr (fun h3 => ?_) fun h3 => ?_
     ·refine W0 ?_
      exact hK _ 2 (hC ⟨of_decide_eq_true h2, by simpa using h3⟩) (SubS.mkK [] rfl ⟨⟨_, rfl, .pq rfl⟩, ⟨_, rfl, .pq rfl⟩, ⟨_, rfl, .pq rfl⟩, ⟨_, rfl, .pq rfl⟩, trivial⟩ ⟨.inl ⟨_, _, rfl, rfl, rfl, oprB_le rfl rfl rfl rfl .same .same .same .same .same .same .same .same .same .same .same .same .same .same .same⟩, .inl ⟨_, _, rfl, rfl, rfl, opB_le rfl rfl rfl rfl .same .same .same .same .same .same⟩, .inl ⟨_, _, rfl, rfl, rfl, oprB_le rfl rfl rfl rfl .same .same .same .same .same .same .same .same fn0_le .same .same .same .same .same .same⟩, allAsz rfl rfl rfl rfl rfl (as_keep rfl rfl rfl) sym_keep wrd_keep⟩)
     ·refine W0 ?_
      exact hK _ 1 (hC1 (by rintro ⟨_, h⟩; simp_all)) (SubS.mkK [] rfl ⟨⟨_, rfl, .pq rfl⟩, ⟨_, rfl, .pq rfl⟩, ⟨_, rfl, .pq rfl⟩, ⟨_, rfl, .pq rfl⟩, trivial⟩ ⟨.inl ⟨_, _, rfl, rfl, rfl, oprB_le rfl rfl rfl rfl .same .same .same .same .same .same .same .same .same .same .same .same .same .same .same⟩, .inl ⟨_, _, rfl, rfl, rfl, opB_le rfl rfl rfl rfl .same .same .same .same .same .same⟩, .inl ⟨_, _, rfl, rfl, rfl, oprB_le rfl rfl rfl rfl .same .same .same .same .same .same .same .same fn0_le .same .same .same .same .same .same⟩, allAsz rfl rfl rfl rfl rfl (as_keep rfl rfl rfl) sym_keep wrd_keep⟩)
    ·refine W0 ?_
     exact hK _ 1 (hC1 (by rintro ⟨h, _⟩; exact absurd h (of_decide_eq_false h2))) (SubS.mkK [] rfl ⟨⟨_, rfl, .pq rfl⟩, ⟨_, rfl, .pq rfl⟩, ⟨_, rfl, .pq rfl⟩, ⟨_, rfl, .pq rfl⟩, trivial⟩ ⟨.inl ⟨_, _, rfl, rfl, rfl, oprB_le rfl rfl rfl rfl .same .same .same .same .same .same .same .same .same .same .same .same .same .same .same⟩, .inl ⟨_, _, rfl, rfl, rfl, opB_le rfl rfl rfl rfl .same .same .same .same .same .same⟩, .inl ⟨_, _, rfl, rfl, rfl, oprB_le rfl rfl rfl rfl .same .same .same .same .same .same .same .same fn0_le .same .same .same .same .same .same⟩, allAsz rfl rfl rfl rfl rfl (as_keep rfl rfl rfl) sym_keep wrd_keep⟩)
   refine awp_last tab_ok mixed ?_
   unfold fndS
   refine W0 ?_
   rw [hE F ws hF' hws]
   exact ⟨_, _, ⟨by rw [hk]; decide, rfl, rfl⟩, SubS.mkK [] rfl ⟨⟨_, rfl, oprV .same .same .same .same .same .same .same .same fn0_le .same .same .same .same .same .same⟩, trivial⟩ (allAsz rfl rfl rfl rfl rfl (as_keep rfl rfl rfl) (sym_keep) (wrd_keep))⟩
def wdT (x : Nat × Int) : AV := tupV [u16 x.1, i64 x.2]
theorem wdE {H : Heap} {U : List (Nat × Nat)} {x : Nat × Int} {f : Nat → AV} {n : Nat} {a b : Int} (h : x = (n, b)) (ha : a = n) (h0 : f 0 = u16 a) (h1 : f 1 = i64 b) : ∃ B, VLe H B U (.tup 2 f) (wdT x) :=
 ⟨[], .tup _ _ _ fun i hi => by
   match i, hi with
   | 0, _ => rw [h0, h, ha]; exact .same
   | 1, _ => rw [h1, h]; exact .same⟩
theorem not16 (w : Nat) (h : w < 65536) : 65535 ^^^ w = 65535 - w := by
 have h' : w < 2 ^ 16 := h
 apply Nat.eq_of_testBit_eq
 intro i
 rw [Nat.testBit_xor, show (65535 : Nat) = 2 ^ 16 - 1 from rfl, Nat.testBit_two_pow_sub_one, show 2 ^ 16 - 1 - w = 2 ^ 16 - (w + 1) by omega, Nat.testBit_two_pow_sub_succ h']
 by_cases hi : i < 16
 ·simp [hi]
 ·have : w.testBit i = false := Nat.testBit_lt_two_pow (Nat.lt_of_lt_of_le h' (Nat.pow_le_pow_right (by decide) (by omega)))
  simp [hi, this]
theorem negbits (w : Nat) (h : w < 32768) : bitsOf .and .u16 (bitsOf .xor .u16 65535 (w : Int)) 32767 = ((32767 - w : Nat) : Int) := by
 have e := xor_nat (k := .u16) rfl (a := 65535) (b := w) (by decide) (show w < 65536 by omega)
 rw [not16 w (by omega)] at e
 rw [show (65535 : Int) = ((65535 : Nat) : Int) from rfl, e, and15 (by omega) (by omega)]
 omega
theorem f151 (w : Nat) (h : w < 32768) : PureCall Tryz.prog 151 [u16 w] (u16 ((32767 - w : Nat) : Int)) := by
 refine pR (by kernel_rfl) Tryz.func151 rfl rfl rfl ?_
 exact done_int _ _ _ rfl rfl (negbits w h)
def ofF (v : Int) : Nat := (if v < 0 then 32767 + v else v).toNat
theorem f113 (v : Int) (h : -16383 ≤ v ∧ v ≤ 16383) : PureCall Tryz.prog 113 [i64 v] (wdT (ofF v, 0)) := by
 refine pR (by kernel_rfl) Tryz.func113 rfl rfl rfl ?_
 refine tr (fun h1 => ?_) fun h1 => ?_
 ·refine W0 ?_
  refine tr (fun h2 => ?_) fun h2 => ?_
  ·omega
  ·refine W0 ?_
   refine tr (fun h3 => ?_) fun h3 => ?_
   ·refine W0 ?_
    refine ⟨⟨by unfold inI64; omega⟩, ?_⟩
    refine W0 ?_
    have e : IntKind.u16.wrap (0 - v) = ((-v).toNat : Nat) := by rw [w16]; omega
    rw [e]
    refine c0f (f151 (-v).toNat (by omega)) ⟨.same, trivial⟩ rfl ?_
    refine W0 ?_
    exact wdE (a := ((32767 - (-v).toNat : Nat) : Int)) rfl (by unfold ofF; rw [if_pos h3]; omega) (by rfl) (by rfl)
   ·refine W0 ?_
    exact wdE (a := IntKind.u16.wrap v) rfl (by unfold ofF; rw [if_neg (by omega), w16]; omega) (by rfl) (by rfl)
 ·omega
theorem nbeqF {a b : Nat} (h : a ≠ b) : Nat.beq a b = false := Bool.eq_false_iff.mpr fun e => h (Nat.eq_of_beq_eq_true e)
theorem nm_TC : ∀ c, c ≤ 39 → 1 ≤ c → ((ent c).nm == [84, 67]) = Nat.beq c 1 := by decide +kernel
theorem nm_IX : ∀ c, c ≤ 39 → 1 ≤ c → ((ent c).nm == [73, 78, 68, 69, 88]) = Nat.beq c 13 := by decide +kernel
theorem kd_le : ∀ c, c ≤ 39 → (ent c).k ≤ 4 := by decide +kernel
theorem bs_le : ∀ c, c ≤ 39 → (ent c).b + mst (ent c).k < 32768 := by decide +kernel
theorem f20 (c : Nat) (k : Int) (h1 : 1 ≤ c) (h2 : c ≤ 39) : PureCall Tryz.prog 20 [opV c, i64 k] (wdT (encF c k)) := by
 have hT := nm_TC c h2 h1
 have hI := nm_IX c h2 h1
 have hk := kd_le c h2
 have hb := bs_le c h2
 refine pR (by kernel_rfl) Tryz.func20 rfl rfl rfl ?_
 refine c0f (xk44 c) ⟨.same, trivial⟩ rfl ?_
 refine W0 ?_
 have hv : (decide (0 < c) && decide (c ≤ 39)) = true := by simp; omega
 rw [hv]
 refine W0 ?_
 refine c0f (xk33 c h1 h2) ⟨.same, trivial⟩ rfl ?_
 refine W0 ?_
 refine c0f (xk43 0 [] false 0 0 (ent c).k hk) ⟨opG_le .same .same .same .same .same .same, trivial⟩ rfl ?_
 refine W0 ?_
 have hl : lst (ent c).k ≤ 1024 := by unfold lst; split <;> decide
 refine tr (fun h3 => ?_) fun h3 => ?_
 ·refine W0 ?_
  refine tr (fun h4 => ?_) fun h4 => ?_
  ·refine W0 ?_
   exact wdE (by unfold encF; rw [if_pos (by omega)]) rfl (by rfl) (by rfl)
  ·refine W0 ?_
   have hin : (lst (ent c).k : Int) ≤ k ∧ k ≤ mst (ent c).k := ⟨h3, h4⟩
   have hE : encF c k = if resv c k.toNat then (0, 3) else ((ent c).b + k.toNat, 0) := by unfold encF; rw [if_neg (fun hc => hc hin)]
   have hfin : ∀ {H : Heap} {U : List (Nat × Nat)} {f : Nat → AV}, resv c k.toNat = false → f 0 = u16 (IntKind.u16.wrap ((ent c).b + k)) → f 1 = i64 0 → ∃ B, VLe H B U (.tup 2 f) (wdT (encF c k)) := fun hr h0 h1 =>
    wdE (by rw [hE, hr]; rfl) (by rw [w16]; omega) h0 h1
   have hbad : ∀ {H : Heap} {U : List (Nat × Nat)} {f : Nat → AV}, resv c k.toNat = true → f 0 = u16 0 → f 1 = i64 3 → ∃ B, VLe H B U (.tup 2 f) (wdT (encF c k)) := fun hr h0 h1 =>
    wdE (n := 0) (by rw [hE, hr]; rfl) rfl h0 h1
   have hr : resv c k.toNat = ((Nat.beq c 1 && (Nat.beq k.toNat 3 || Nat.beq k.toNat 4 || Nat.beq k.toNat 6)) || (Nat.beq c 13 && Nat.beq k.toNat 15)) := rfl
   have hq : ∀ m : Nat, k.toNat = m → Nat.beq k.toNat m = true := fun m h => by rw [h]; exact Nat.beq_refl m
   have hq' : ∀ m : Nat, k.toNat ≠ m → Nat.beq k.toNat m = false := fun m h => nbeqF h
   by_cases hc1 : c = 1
   ·have hT' : ((ent c).nm == [84, 67]) = true := by rw [hT, hc1]; rfl
    have hI' : ((ent c).nm == [73, 78, 68, 69, 88]) = false := by rw [hI, hc1]; rfl
    rw [show Nat.beq c 1 = true by rw [hc1]; rfl, show Nat.beq c 13 = false by rw [hc1]; rfl] at hr
    refine ⟨fun _ => ?_, fun e => absurd ((hT').symm.trans e) (by decide)⟩
    refine W0 ?_
    refine tr (fun a3 => ?_) fun a3 => ?_
    ·refine W0 ?_
     refine tr (fun a4 => ?_) fun a4 => ?_
     ·refine W0 ?_
      refine tr (fun a6 => ?_) fun a6 => ?_
      ·refine W0 ?_
       refine tr (fun b6 => ?_) fun b6 => ?_
       ·refine W0 ?_
        exact hbad (by rw [hr, hq 6 (by omega)]; simp) (by rfl) (by rfl)
       ·omega
      ·refine W0 ?_
       refine ⟨fun e => absurd ((hI').symm.trans e) (by decide), fun _ => ?_⟩
       refine W0 ?_
       refine W0 ?_
       refine ⟨⟨by unfold inI64; omega⟩, ?_⟩
       refine W0 ?_
       exact hfin (by rw [hr, hq' 3 (by omega), hq' 4 (by omega), hq' 6 (by omega)]; rfl) (by rfl) (by rfl)
     ·refine W0 ?_
      exact hbad (by rw [hr, hq 4 (by omega)]; simp) (by rfl) (by rfl)
    ·refine W0 ?_
     exact hbad (by rw [hr, hq 3 (by omega)]; simp) (by rfl) (by rfl)
   ·have hT' : ((ent c).nm == [84, 67]) = false := by rw [hT]; exact nbeqF hc1
    rw [show Nat.beq c 1 = false from nbeqF hc1] at hr
    refine ⟨fun e => absurd ((hT').symm.trans e) (by decide), fun _ => ?_⟩
    refine W0 ?_
    by_cases hc2 : c = 13
    ·have hI' : ((ent c).nm == [73, 78, 68, 69, 88]) = true := by rw [hI, hc2]; rfl
     rw [show Nat.beq c 13 = true by rw [hc2]; rfl] at hr
     refine ⟨fun _ => ?_, fun e => absurd ((hI').symm.trans e) (by decide)⟩
     refine W0 ?_
     refine tr (fun a15 => ?_) fun a15 => ?_
     ·refine W0 ?_
      exact hbad (by rw [hr, hq 15 (by omega)]; rfl) (by rfl) (by rfl)
     ·refine W0 ?_
      refine W0 ?_
      refine ⟨⟨by unfold inI64; omega⟩, ?_⟩
      refine W0 ?_
      exact hfin (by rw [hr, hq' 15 (by omega)]; rfl) (by rfl) (by rfl)
    ·have hI' : ((ent c).nm == [73, 78, 68, 69, 88]) = false := by rw [hI]; exact nbeqF hc2
     rw [show Nat.beq c 13 = false from nbeqF hc2] at hr
     refine ⟨fun e => absurd ((hI').symm.trans e) (by decide), fun _ => ?_⟩
     refine W0 ?_
     refine W0 ?_
     refine ⟨⟨by unfold inI64; omega⟩, ?_⟩
     refine W0 ?_
     exact hfin (by rw [hr]; rfl) (by rfl) (by rfl)
 ·refine W0 ?_
  exact wdE (by unfold encF; rw [if_pos (by omega)]) rfl (by rfl) (by rfl)
end Go.Proofs.YtkeecnoafjhhdaaGreatDoor
namespace Go.Proofs.YtkeecnoafjhhdaaGreatDoor
open Go Go.AM
def ta150 : Tr := .alt 0 (.alt 3 (.alt 4 (.br 1 (.br 2 (.alt 5 (.alt 6 (.alt 7 .done))) (.alt 5 (.alt 2 (.alt 6 (.alt 7 .done))))) (.skip (.alt 5 .dead)))))
attribute [local irreducible] AWP CallK PureCall SubS HeapCallK
def okW (x : Nat × Int) (L : List (Nat × AO)) (r : AV) (Hout : List (Nat × AO)) : Prop := x.2 = 0 ∧ r = u16 x.1 ∧ Hout = L
def erW (x : Nat × Int) (L : List (Nat × AO)) (r : AV) (Hout : List (Nat × AO)) : Prop := x.2 ≠ 0 ∧ r = faultV x.2 ∧ Hout = L
theorem f111 (a : AsS) (l : List Sym) (w : List (Nat × Nat)) (x : Line) (h : 0 ≤ x.arg.v ∧ x.arg.v ≤ 32767) : HeapCallK Tryz.prog 111 [.ptr 100 0 44 0 0, x.av] (asH a l w) (okW (x.arg.v.toNat, 0) (asH a l w)) (erW (x.arg.v.toNat, 0) (asH a l w)) := by
 refine HeapCallK.run tab_ok mixed (by kernel_rfl) Tryz.func111 rfl rfl rfl ?_
 refine W0 ?_
 refine W0 ?_
 exact ⟨_, _, ⟨rfl, rfl, rfl⟩, SubS.mkK [] rfl ⟨⟨_, rfl, VLe.int (by rw [w16]; omega)⟩, trivial⟩ (allAsz rfl rfl rfl rfl rfl (as_keep rfl rfl rfl) (sym_keep) (wrd_keep))⟩
theorem f112 (a : AsS) (l : List Sym) (w : List (Nat × Nat)) (x : Line) (h : -16383 ≤ x.arg.v ∧ x.arg.v ≤ 16383) : HeapCallK Tryz.prog 112 [.ptr 100 0 44 0 0, x.av] (asH a l w) (okW (ofF x.arg.v, 0) (asH a l w)) (erW (ofF x.arg.v, 0) (asH a l w)) := by
 refine HeapCallK.run tab_ok mixed (by kernel_rfl) Tryz.func112 rfl rfl rfl ?_
 refine W0 ?_
 refine c0f (f113 x.arg.v h) ⟨.same, trivial⟩ rfl ?_
 refine W0 ?_
 refine CallK.heapK (f114 0) [] [] rfl rfl rfl ⟨.same, trivial⟩ trivial 2000 rfl (fun r Hout hr => ?_) (fun r Hout hr => absurd rfl hr.1)
 rcases hr with ⟨_, rfl, rfl⟩
 refine W0 ?_
 exact ⟨_, _, ⟨rfl, rfl, rfl⟩, SubS.mkK [] rfl ⟨⟨_, rfl, .same⟩, trivial⟩ (allAsz rfl rfl rfl rfl rfl (as_keep rfl rfl rfl) (sym_keep) (wrd_keep))⟩
def cadF (l : List Sym) (x : Line) (sp : Nat) : Nat × Int := match findS l x.arg.nm with
 | none => (0, 7)
 | some y => ((absF y x.arg.v sp).1.toNat, (absF y x.arg.v sp).2)
theorem abs_pos {y : Sym} {o : Int} {sp : Nat} (h : sp = 1 ∨ sp = 2) : 0 ≤ (absF y o sp).1 ∧ (absF y o sp).1 ≤ 32767 := by
 unfold absF
 split
 ·exact ⟨by decide, by decide⟩
 ·split
  ·exact ⟨by decide, by decide⟩
  ·rename_i h1 h2
   have hv : valS sp (y.ad + o) = true := by cases hh : valS sp (y.ad + o) <;> simp_all
   have h4 : 0 ≤ y.ad + o := by
    unfold valS at hv
    rcases h with rfl | rfl
    ·rw [if_pos rfl] at hv; exact (of_decide_eq_true hv).1
    ·rw [if_neg (by decide), if_pos rfl] at hv; exact (of_decide_eq_true hv).1
   exact ⟨h4, Int.not_lt.mp fun hc => h2 (.inr hc)⟩
set_option maxHeartbeats 1000000 in
theorem f117 (a : AsS) (l : List Sym) (w : List (Nat × Nat)) (x : Line) (hn : NodupS l) (hs : ∀ y ∈ l, y.sp ≤ 2 ∧ -65535 ≤ y.ad ∧ y.ad ≤ 65535) (hx : -65535 ≤ x.arg.v ∧ x.arg.v ≤ 65535) : HeapCallK Tryz.prog 117 [.ptr 100 0 44 0 0, x.av] (asH a l w) (okW (cadF l x 2) (asH a l w)) (erW (cadF l x 2) (asH a l w)) := by
 refine HeapCallK.body tab_ok (by kernel_rfl) Tryz.func117 rfl rfl rfl ?_
 refine pW ?_
 refine awp_seq ?_
 refine awp_tree tab_ok mixed [0, 3, 4, 7] [1, 5] ta150 (by kernel_rfl) (fun _ _ _ _ _ _ _ h => h) ?_
 conv => whnf
 repeat' (first | (refine W1 ?_) | exact trivial | (refine And2.mk ?_ ?_ <;> (conv => whnf)))
 all_goals
  refine CallK.heapK (f116 a l w x hn) [] [(100, 100), (101, 101), (102, 102), (103, 103)] rfl rfl rfl ⟨.pq rfl, lineV .same .same .same .same .same, trivial⟩ (allAsz rfl rfl rfl rfl rfl (as_keep rfl rfl rfl) (sym_keep) (wrd_keep)) 3000 rfl (fun r Hout hr => ?_) (fun r Hout hr => ?_)
  ·obtain ⟨y, hf, rfl, rfl⟩ := hr
   have hy := hs y (find_some hf).1
   have hq := abs_pos (y := y) (o := x.arg.v) (sp := 2) (by decide)
   have e : cadF l x 2 = ((absF y x.arg.v 2).1.toNat, (absF y x.arg.v 2).2) := by unfold cadF; rw [hf]
   rw [e]
   conv => whnf
   repeat' (first | (refine W1 ?_) | exact trivial | (refine And2.mk ?_ ?_ <;> (conv => whnf)))
   refine CallK.heapK (f118 y x.arg.v 2 (by unfold inI64; omega) (by decide)) [] [] rfl rfl rfl ⟨symV .same .same .same, .same, .same, trivial⟩ trivial 4000 rfl (fun r Hout hr => ?_) (fun r Hout hr => ?_)
   ·obtain ⟨h1, rfl, rfl⟩ := hr
    conv => whnf
    repeat' (first | (refine W1 ?_) | exact trivial | (refine And2.mk ?_ ?_ <;> (conv => whnf)))
    refine awp_last tab_ok mixed ?_
    refine W0 ?_
    exact ⟨_, _, ⟨h1, rfl, rfl⟩, SubS.mkK [] rfl ⟨⟨_, rfl, VLe.int (by omega)⟩, trivial⟩ (allAsRz rfl rfl rfl rfl rfl (as_keepR rfl rfl rfl) (sym_keepR) (wrd_keepR))⟩
   ·obtain ⟨h1, rfl, rfl⟩ := hr
    conv => whnf
    repeat' (first | (refine W1 ?_) | exact trivial | (refine And2.mk ?_ ?_ <;> (conv => whnf)))
    exact ⟨rfl, _, _, ⟨h1, rfl, rfl⟩, SubS.mkK [] rfl ⟨⟨_, rfl, .same⟩, trivial⟩ (allAsRz rfl rfl rfl rfl rfl (as_keepR rfl rfl rfl) (sym_keepR) (wrd_keepR))⟩
  ·obtain ⟨hf, rfl, rfl⟩ := hr
   have e : cadF l x 2 = (0, 7) := by unfold cadF; rw [hf]
   rw [e]
   conv => whnf
   repeat' (first | (refine W1 ?_) | exact trivial | (refine And2.mk ?_ ?_ <;> (conv => whnf)))
   exact ⟨rfl, _, _, ⟨by decide, rfl, rfl⟩, SubS.mkK [] rfl ⟨⟨_, rfl, .same⟩, trivial⟩ (allAsRz rfl rfl rfl rfl rfl (as_keepR rfl rfl rfl) (sym_keepR) (wrd_keepR))⟩
set_option maxHeartbeats 1000000 in
theorem f119 (a : AsS) (l : List Sym) (w : List (Nat × Nat)) (x : Line) (hn : NodupS l) (hs : ∀ y ∈ l, y.sp ≤ 2 ∧ -65535 ≤ y.ad ∧ y.ad ≤ 65535) (hx : -65535 ≤ x.arg.v ∧ x.arg.v ≤ 65535) : HeapCallK Tryz.prog 119 [.ptr 100 0 44 0 0, x.av] (asH a l w) (okW (cadF l x 1) (asH a l w)) (erW (cadF l x 1) (asH a l w)) := by
 refine HeapCallK.body tab_ok (by kernel_rfl) Tryz.func119 rfl rfl rfl ?_
 refine pW ?_
 refine awp_seq ?_
 refine awp_tree tab_ok mixed [0, 3, 4, 7] [1, 5] ta150 (by kernel_rfl) (fun _ _ _ _ _ _ _ h => h) ?_
 conv => whnf
 repeat' (first | (refine W1 ?_) | exact trivial | (refine And2.mk ?_ ?_ <;> (conv => whnf)))
 all_goals
  refine CallK.heapK (f116 a l w x hn) [] [(100, 100), (101, 101), (102, 102), (103, 103)] rfl rfl rfl ⟨.pq rfl, lineV .same .same .same .same .same, trivial⟩ (allAsz rfl rfl rfl rfl rfl (as_keep rfl rfl rfl) (sym_keep) (wrd_keep)) 3000 rfl (fun r Hout hr => ?_) (fun r Hout hr => ?_)
  ·obtain ⟨y, hf, rfl, rfl⟩ := hr
   have hy := hs y (find_some hf).1
   have hq := abs_pos (y := y) (o := x.arg.v) (sp := 1) (by decide)
   have e : cadF l x 1 = ((absF y x.arg.v 1).1.toNat, (absF y x.arg.v 1).2) := by unfold cadF; rw [hf]
   rw [e]
   conv => whnf
   repeat' (first | (refine W1 ?_) | exact trivial | (refine And2.mk ?_ ?_ <;> (conv => whnf)))
   refine CallK.heapK (f118 y x.arg.v 1 (by unfold inI64; omega) (by decide)) [] [] rfl rfl rfl ⟨symV .same .same .same, .same, .same, trivial⟩ trivial 4000 rfl (fun r Hout hr => ?_) (fun r Hout hr => ?_)
   ·obtain ⟨h1, rfl, rfl⟩ := hr
    conv => whnf
    repeat' (first | (refine W1 ?_) | exact trivial | (refine And2.mk ?_ ?_ <;> (conv => whnf)))
    refine awp_last tab_ok mixed ?_
    refine W0 ?_
    exact ⟨_, _, ⟨h1, rfl, rfl⟩, SubS.mkK [] rfl ⟨⟨_, rfl, VLe.int (by omega)⟩, trivial⟩ (allAsRz rfl rfl rfl rfl rfl (as_keepR rfl rfl rfl) (sym_keepR) (wrd_keepR))⟩
   ·obtain ⟨h1, rfl, rfl⟩ := hr
    conv => whnf
    repeat' (first | (refine W1 ?_) | exact trivial | (refine And2.mk ?_ ?_ <;> (conv => whnf)))
    exact ⟨rfl, _, _, ⟨h1, rfl, rfl⟩, SubS.mkK [] rfl ⟨⟨_, rfl, .same⟩, trivial⟩ (allAsRz rfl rfl rfl rfl rfl (as_keepR rfl rfl rfl) (sym_keepR) (wrd_keepR))⟩
  ·obtain ⟨hf, rfl, rfl⟩ := hr
   have e : cadF l x 1 = (0, 7) := by unfold cadF; rw [hf]
   rw [e]
   conv => whnf
   repeat' (first | (refine W1 ?_) | exact trivial | (refine And2.mk ?_ ?_ <;> (conv => whnf)))
   exact ⟨rfl, _, _, ⟨by decide, rfl, rfl⟩, SubS.mkK [] rfl ⟨⟨_, rfl, .same⟩, trivial⟩ (allAsRz rfl rfl rfl rfl rfl (as_keepR rfl rfl rfl) (sym_keepR) (wrd_keepR))⟩
end Go.Proofs.YtkeecnoafjhhdaaGreatDoor
namespace Go.Proofs.YtkeecnoafjhhdaaGreatDoor
open Go Go.AM
def ta160 : Tr := .alt 14 (.alt 15 (.alt 16 (.alt 17 (.alt 18 (.alt 19 .done)))))
def ta161 : Tr := .alt 13 .dead
attribute [local irreducible] AWP CallK PureCall SubS HeapCallK
theorem oper_rng (sp : Nat) (ad eb fb : Int) : 0 ≤ (operF sp ad eb fb).1 ∧ (operF sp ad eb fb).1 ≤ 4095 := by
 unfold operF
 by_cases h1 : sp ≠ 1 ∧ sp ≠ 2
 ·rw [if_pos h1]; exact ⟨Int.le_refl 0, by decide⟩
 rw [if_neg h1]
 by_cases h2 : inB eb 7 = false ∨ inB fb 35 = false ∨ inB ad (if sp = 1 then 2047 else 36863) = false
 ·rw [if_pos h2]; exact ⟨Int.le_refl 0, by decide⟩
 rw [if_neg h2]
 have hin : inB ad (if sp = 1 then 2047 else 36863) = true := by
  cases hh : inB ad (if sp = 1 then 2047 else 36863) with
  | true => rfl
  | false => exact absurd (.inr (.inr hh)) h2
 have h0 := (inB_iff.mp hin).1
 by_cases h3 : (sp = 1 ∧ ad < 768) ∨ (sp = 2 ∧ ad / 2048 = 1)
 ·rw [if_pos h3]
  dsimp only
  rcases h3 with h3 | h3 <;> omega
 rw [if_neg h3]
 by_cases h4 : sp = 1 ∧ ad / 256 = eb
 ·rw [if_pos h4]; dsimp only; omega
 rw [if_neg h4]
 by_cases h5 : sp = 2 ∧ ad / 1024 = fb
 ·rw [if_pos h5]; dsimp only; omega
 rw [if_neg h5]; exact ⟨Int.le_refl 0, by decide⟩
theorem reach_rng (y : Sym) (o : Int) (k : Nat) (eb fb : Int) : 0 ≤ (reachF y o k eb fb).1 ∧ (reachF y o k eb fb).1 ≤ 4095 := by
 unfold reachF
 split
 ·exact ⟨by decide, by decide⟩
 ·split
  ·exact ⟨by decide, by decide⟩
  ·split
   ·exact ⟨by decide, by decide⟩
   ·split
    ·exact oper_rng _ _ _ _
    ·split
     ·rename_i h
      have h1 : (mst k : Int) ≤ 4095 := by unfold mst; split <;> decide
      have h2 : (0 : Int) ≤ lst k := by omega
      dsimp only
      omega
     ·exact ⟨by decide, by decide⟩
def adrF (a : AsS) (l : List Sym) (x : Line) : Nat × Int := match findS l x.arg.nm with
 | none => (0, 7)
 | some y => ((reachF y x.arg.v 3 a.eb a.bank).1.toNat, (reachF y x.arg.v 3 a.eb a.bank).2)
set_option maxHeartbeats 2000000 in
theorem f115 (a : AsS) (l : List Sym) (w : List (Nat × Nat)) (x : Line) (hn : NodupS l) : HeapCallK Tryz.prog 115 [.ptr 100 0 44 0 0, x.av] (asH a l w) (okW (adrF a l x) (asH a l w)) (erW (adrF a l x) (asH a l w)) := by
 refine HeapCallK.body tab_ok (by kernel_rfl) Tryz.func115 rfl rfl rfl ?_
 refine pW ?_
 refine awp_cut (fun y : Sym => mkStK 29 [(0, .ptr 100 0 44 0 0), (3, .ptr 3 0 5 0 0), (4, u16 0), (5, i64 (reachF y x.arg.v 3 a.eb a.bank).1), (6, i64 (reachF y x.arg.v 3 a.eb a.bank).2)] ((3, lineO x) :: asH a l w) [100, 101, 102, 103]) (fun y => findS l x.arg.nm = some y) (fun K hK => ?_) (fun y hy => ?_)
 ·refine awp_tree tab_ok mixed [0, 3, 4, 6, 7, 8, 10, 11, 12, 15, 16, 17, 18, 19] [1, 5, 9, 13] (.alt 0 (.alt 3 (.alt 4 (.alt 6 (.alt 7 (.alt 8 (.alt 10 (.alt 11 (.alt 12 (.br 1 (.br 2 (.br 5 (.br 9 (.alt 13 ta160) (.skip ta161)) (.skip (.br 9 ta161 ta161))) (.br 5 (.br 2 (.br 9 (.alt 13 ta160) (.skip ta161)) (.br 9 (.br 2 (.alt 13 ta160) (.alt 13 (.alt 2 ta160))) (.alt 13 (.alt 2 (.alt 9 ta160))))) (.br 9 (.br 2 (.br 5 (.alt 13 ta160) (.skip ta161)) (.alt 13 (.alt 2 (.alt 5 ta160)))) (.alt 13 (.alt 2 (.br 5 (.alt 9 ta160) (.skip (.alt 9 .dead)))))))) (.skip (.br 5 (.br 9 ta161 ta161) (.br 9 ta161 ta161))))))))))))) (by kernel_rfl) (fun _ _ _ _ _ _ _ h => h) ?_
  conv => whnf
  repeat' (first | (refine W1 ?_) | exact trivial | (refine And2.mk ?_ ?_ <;> (conv => whnf)))
  all_goals
   refine CallK.heapK (f116 a l w x hn) [] [(100, 100), (101, 101), (102, 102), (103, 103)] rfl rfl rfl ⟨.pq rfl, lineV .same .same .same .same .same, trivial⟩ (allAsz rfl rfl rfl rfl rfl (as_keep rfl rfl rfl) (sym_keep) (wrd_keep)) 3000 rfl (fun r Hout hr => ?_) (fun r Hout hr => ?_)
   ·obtain ⟨y, hf, rfl, rfl⟩ := hr
    conv => whnf
    repeat' (first | (refine W1 ?_) | exact trivial | (refine And2.mk ?_ ?_ <;> (conv => whnf)))
    all_goals
     refine c0f (f26 y x.arg.v 3 a.eb a.bank) ⟨symV .same .same .same, .same, .same, .same, .same, trivial⟩ rfl ?_
     conv => whnf
     repeat' (first | (refine W1 ?_) | exact trivial | (refine And2.mk ?_ ?_ <;> (conv => whnf)))
     exact hK _ y hf (SubS.mkK [] rfl ⟨⟨_, rfl, .pq rfl⟩, ⟨_, rfl, .pq rfl⟩, ⟨_, rfl, .same⟩, ⟨_, rfl, .same⟩, ⟨_, rfl, .same⟩, trivial⟩
      ⟨.inl ⟨_, _, rfl, rfl, rfl, line_box rfl rfl rfl rfl fun _ => rfl⟩, allAsRz rfl rfl rfl rfl rfl (as_keepR rfl rfl rfl) sym_keepR wrd_keepR⟩)
   ·obtain ⟨hf, rfl, rfl⟩ := hr
    have e : adrF a l x = (0, 7) := by unfold adrF; rw [hf]
    rw [e]
    conv => whnf
    repeat' (first | (refine W1 ?_) | exact trivial | (refine And2.mk ?_ ?_ <;> (conv => whnf)))
    exact ⟨rfl, _, _, ⟨by decide, rfl, rfl⟩, SubS.mkK [] rfl ⟨⟨_, rfl, .same⟩, trivial⟩ (allAsRz rfl rfl rfl rfl rfl (as_keepR rfl rfl rfl) (sym_keepR) (wrd_keepR))⟩
 have e : adrF a l x = ((reachF y x.arg.v 3 a.eb a.bank).1.toNat, (reachF y x.arg.v 3 a.eb a.bank).2) := by unfold adrF; rw [hy]
 rw [e]
 have hr := reach_rng y x.arg.v 3 a.eb a.bank
 generalize reachF y x.arg.v 3 a.eb a.bank = q at *
 refine pW ?_
 refine CallK.heapK (f114 q.2) [] [] rfl rfl rfl ⟨.same, trivial⟩ trivial 2000 rfl (fun r Hout hr => ?_) (fun r Hout hr => ?_)
 ·rcases hr with ⟨h0, rfl, rfl⟩
  refine W0 ?_
  refine awp_last tab_ok mixed ?_
  refine W0 ?_
  exact ⟨_, _, ⟨h0, rfl, rfl⟩, SubS.mkK [] rfl ⟨⟨_, rfl, VLe.int (by rw [w16]; omega)⟩, trivial⟩ (allAsz rfl rfl rfl rfl rfl (as_keep rfl rfl rfl) (sym_keep) (wrd_keep))⟩
 ·rcases hr with ⟨h0, rfl, rfl⟩
  refine W0 ?_
  exact ⟨rfl, _, _, ⟨h0, rfl, rfl⟩, SubS.mkK [] rfl ⟨⟨_, rfl, .same⟩, trivial⟩ (allAsz rfl rfl rfl rfl rfl (as_keep rfl rfl rfl) (sym_keep) (wrd_keep))⟩
end Go.Proofs.YtkeecnoafjhhdaaGreatDoor
namespace Go.Proofs.YtkeecnoafjhhdaaGreatDoor
open Go Go.AM
def ta170 : Tr := .alt 16 (.alt 17 (.alt 18 (.alt 19 (.alt 20 (.alt 21 .done)))))
def ta173 : Tr := .alt 15 .dead
def ta171 : Tr := .br 11 ta173 ta173
def ta172 : Tr := .br 11 (.alt 15 ta170) (.skip ta173)
attribute [local irreducible] AWP CallK PureCall SubS HeapCallK
def insK (a : AsS) (l : List Sym) (x : Line) (c : Nat) : Int × Int :=
 if x.arg.k = 2 then match findS l x.arg.nm with
  | none => (0, 7)
  | some y => reachF y x.arg.v (ent c).k a.eb a.bank
 else (x.arg.v, 0)
def insF (a : AsS) (l : List Sym) (x : Line) (c : Nat) : Nat × Int := if (insK a l x c).2 ≠ 0 then (0, (insK a l x c).2) else encF c (insK a l x c).1
theorem codeK {n : List UInt8} (h : opK n = 11) : 1 ≤ codeOf n ∧ codeOf n ≤ 39 := by
 rcases code_cases n with h0 | h0
 ·exfalso
  unfold opK at h
  rw [h0] at h
  by_cases e0 : n = nBANK
  ·rw [if_pos e0] at h; cases h
  rw [if_neg e0] at h
  by_cases e1 : n = nLOC
  ·rw [if_pos e1] at h; cases h
  rw [if_neg e1] at h
  by_cases e2 : n = nEBANK
  ·rw [if_pos e2] at h; cases h
  rw [if_neg e2] at h
  by_cases e3 : n = nELOC
  ·rw [if_pos e3] at h; cases h
  rw [if_neg e3] at h
  by_cases e4 : n = nERASE
  ·rw [if_pos e4] at h; cases h
  rw [if_neg e4] at h
  by_cases e5 : n = nEQUALS
  ·rw [if_pos e5] at h; cases h
  rw [if_neg e5] at h
  by_cases e6 : n = nOCT
  ·rw [if_pos e6] at h; cases h
  rw [if_neg e6] at h
  by_cases e7 : n = nDEC
  ·rw [if_pos e7] at h; cases h
  rw [if_neg e7] at h
  by_cases e8 : n = nADRES
  ·rw [if_pos e8] at h; cases h
  rw [if_neg e8] at h
  by_cases e9 : n = nCADR
  ·rw [if_pos e9] at h; cases h
  rw [if_neg e9] at h
  by_cases e10 : n = nECADR
  ·rw [if_pos e10] at h; cases h
  rw [if_neg e10] at h
  rw [if_neg (fun hc => hc rfl)] at h
  cases h
 ·exact ⟨h0.1, h0.2.1⟩
theorem oprF_11 {n : List UInt8} (m : Bool) (h : opK n = 11) : oprF n m = ⟨frmK 11 n, (cntK 11 n m : Nat), none, some 120, opR (codeOf n)⟩ := by unfold oprF; rw [h]; rfl
def insS (a : AsS) (l : List Sym) (w : List (Nat × Nat)) (x : Line) (c : Nat) (k : Int) : ASt := mkStK 55 [(0, .ptr 100 0 44 0 0), (3, .ptr 3 0 5 0 0), (4, u16 0), (5, .ptr 5 0 6 0 0), (6, i64 k)] ((3, lineO x) :: (5, opB (opR c)) :: asH a l w) [100, 101, 102, 103]
set_option maxHeartbeats 2000000 in
theorem f120 (a : AsS) (l : List Sym) (w : List (Nat × Nat)) (x : Line) (hn : NodupS l) (h11 : opK x.op = 11) : HeapCallK Tryz.prog 120 [.ptr 100 0 44 0 0, x.av] (asH a l w) (okW (insF a l x (codeOf x.op)) (asH a l w)) (erW (insF a l x (codeOf x.op)) (asH a l w)) := by
 obtain ⟨hc1, hc2⟩ := codeK h11
 have hO := oprF_11 a.mark h11
 generalize codeOf x.op = c at *
 refine HeapCallK.body tab_ok (by kernel_rfl) Tryz.func120 rfl rfl rfl ?_
 refine pW ?_
 refine pW ?_
 refine CallK.heapK (f68 a l w x.op) [] [(100, 100), (101, 101), (102, 102), (103, 103)] rfl rfl rfl ⟨.pq rfl, .same, trivial⟩ (allAsz rfl rfl rfl rfl rfl (as_keep rfl rfl rfl) (sym_keep) (wrd_keep)) 3000 rfl (fun r Hout hr => ?_) (fun r Hout hr => ?_)
 ·obtain ⟨_, rfl, rfl⟩ := hr
  rw [hO]
  refine W0 ?_
  refine awp_pieceM tab_ok mixed (insS a l w x c x.arg.v) True (fun K hK => ?_) (fun _ => ?_)
  ·refine W0 ?_
   exact hK _ trivial (SubS.mkK [] rfl ⟨⟨_, rfl, .pq rfl⟩, ⟨_, rfl, .pq rfl⟩, ⟨_, rfl, .same⟩, ⟨_, rfl, .pq rfl⟩, ⟨_, rfl, .same⟩, trivial⟩
    ⟨.inl ⟨_, _, rfl, rfl, rfl, line_box rfl rfl rfl rfl fun _ => rfl⟩, .inl ⟨_, _, rfl, rfl, rfl, opB_le rfl rfl rfl rfl .same .same .same .same .same .same⟩, allAsRz rfl rfl rfl rfl rfl (as_keepR rfl rfl rfl) sym_keepR wrd_keepR⟩)
  refine awp_cut (fun k : Int => insS a l w x c k) (fun k => (insK a l x c) = (k, 0)) (fun K hK => ?_) (fun k hk => ?_)
  ·unfold insS
   refine pW ?_
   refine awp_cond (b := (x.arg.k == 2)) rfl (fun h => ?_) (fun h => ?_)
   ·have h := nm h
    have hI : ∀ y, findS l x.arg.nm = some y → insK a l x c = reachF y x.arg.v (ent c).k a.eb a.bank := fun y hy => by unfold insK; rw [if_pos h, hy]
    refine awp_cut (fun y : Sym => mkStK 55 [(0, .ptr 100 0 44 0 0), (3, .ptr 3 0 5 0 0), (4, u16 0), (5, .ptr 5 0 6 0 0), (7, i64 (insK a l x c).1), (8, i64 (insK a l x c).2)] ((3, lineO x) :: (5, opB (opR c)) :: asH a l w) [100, 101, 102, 103]) (fun y => findS l x.arg.nm = some y) (fun K2 hK2 => ?_) (fun y hy => ?_)
    ·refine awp_tree tab_ok mixed [0, 3, 4, 6, 8, 9, 10, 12, 13, 14, 17, 18, 19, 20, 21] [1, 5, 7, 11, 15] (.alt 0 (.alt 3 (.alt 4 (.alt 6 (.alt 8 (.alt 9 (.alt 10 (.alt 12 (.alt 13 (.alt 14 (.br 1 (.br 2 (.br 5 (.br 7 ta172 (.skip ta171)) (.skip (.br 7 ta171 ta171))) (.br 5 (.br 2 (.br 7 ta172 (.skip ta171)) (.br 7 (.br 2 ta172 (.br 11 (.br 2 (.alt 15 ta170) (.alt 15 (.alt 2 ta170))) (.alt 15 (.alt 2 (.alt 11 ta170))))) (.br 11 (.br 2 (.br 7 (.alt 15 ta170) (.skip ta173)) (.alt 15 (.alt 2 (.alt 7 ta170)))) (.alt 15 (.alt 2 (.br 7 (.alt 11 ta170) (.skip (.alt 11 .dead)))))))) (.br 7 (.br 2 (.br 5 ta172 (.skip ta171)) (.br 11 (.br 2 (.br 5 (.alt 15 ta170) (.skip ta173)) (.alt 15 (.alt 2 (.alt 5 ta170)))) (.alt 15 (.alt 2 (.br 5 (.alt 11 ta170) (.skip (.alt 11 .dead))))))) (.br 11 (.br 2 (.br 5 (.br 7 (.alt 15 ta170) (.skip ta173)) (.skip (.br 7 ta173 ta173))) (.alt 15 (.alt 2 (.br 5 (.alt 7 ta170) (.skip (.alt 7 .dead)))))) (.alt 15 (.alt 2 (.br 5 (.br 7 (.alt 11 ta170) (.skip (.alt 11 .dead))) (.skip (.br 7 (.alt 11 .dead) (.alt 11 .dead)))))))))) (.skip (.br 5 (.br 7 ta171 ta171) (.br 7 ta171 ta171)))))))))))))) (by kernel_rfl) (fun _ _ _ _ _ _ _ h => h) ?_
     conv => whnf
     repeat' (first | (refine W1 ?_) | exact trivial | (refine And2.mk ?_ ?_ <;> (conv => whnf)))
     all_goals
      refine CallK.heapK (f116 a l w x hn) [] [(100, 100), (101, 101), (102, 102), (103, 103)] rfl rfl rfl ⟨.pq rfl, lineV .same .same .same .same .same, trivial⟩ (allAsz rfl rfl rfl rfl rfl (as_keep rfl rfl rfl) (sym_keep) (wrd_keep)) 3000 rfl (fun r Hout hr => ?_) (fun r Hout hr => ?_)
      ·obtain ⟨y, hf, rfl, rfl⟩ := hr
       conv => whnf
       repeat' (first | (refine W1 ?_) | exact trivial | (refine And2.mk ?_ ?_ <;> (conv => whnf)))
       all_goals
        refine c0f (f26 y x.arg.v (ent c).k a.eb a.bank) ⟨symV .same .same .same, .same, .same, .same, .same, trivial⟩ rfl ?_
        conv => whnf
        repeat' (first | (refine W1 ?_) | exact trivial | (refine And2.mk ?_ ?_ <;> (conv => whnf)))
        refine hK2 _ y hf ?_
        rw [hI y hf]
        exact SubS.mkK [] rfl ⟨⟨_, rfl, .pq rfl⟩, ⟨_, rfl, .pq rfl⟩, ⟨_, rfl, .same⟩, ⟨_, rfl, .pq rfl⟩, ⟨_, rfl, .same⟩, ⟨_, rfl, .same⟩, trivial⟩ ⟨.inl ⟨_, _, rfl, rfl, rfl, line_keep⟩, .inl ⟨_, _, rfl, rfl, rfl, opB_le rfl rfl rfl rfl .same .same .same .same .same .same⟩, allAsRz rfl rfl rfl rfl rfl (as_keepR rfl rfl rfl) sym_keepR wrd_keepR⟩
      ·obtain ⟨hf, rfl, rfl⟩ := hr
       have e : insF a l x c = (0, 7) := by unfold insF insK; rw [if_pos h, hf]; rfl
       conv => whnf
       repeat' (first | (refine W1 ?_) | exact trivial | (refine And2.mk ?_ ?_ <;> (conv => whnf)))
       rw [e]
       exact ⟨rfl, _, _, ⟨by decide, rfl, rfl⟩, SubS.mkK [] rfl ⟨⟨_, rfl, .same⟩, trivial⟩ (allAsRz rfl rfl rfl rfl rfl (as_keepR rfl rfl rfl) (sym_keepR) (wrd_keepR))⟩
    ·refine pW ?_
     refine CallK.heapK (f114 (insK a l x c).2) [] [] rfl rfl rfl ⟨.same, trivial⟩ trivial 2000 rfl (fun r Hout hr => ?_) (fun r Hout hr => ?_)
     ·rcases hr with ⟨h0, rfl, rfl⟩
      refine W0 ?_
      refine awp_last tab_ok mixed ?_
      refine W0 ?_
      exact hK _ (insK a l x c).1 (Prod.ext rfl h0) (SubS.mkK [] rfl ⟨⟨_, rfl, .pq rfl⟩, ⟨_, rfl, .pq rfl⟩, ⟨_, rfl, .same⟩, ⟨_, rfl, .pq rfl⟩, ⟨_, rfl, .same⟩, trivial⟩ ⟨.inl ⟨_, _, rfl, rfl, rfl, line_keep⟩, .inl ⟨_, _, rfl, rfl, rfl, opB_le rfl rfl rfl rfl .same .same .same .same .same .same⟩, allAsz rfl rfl rfl rfl rfl (as_keep rfl rfl rfl) sym_keep wrd_keep⟩)
     ·rcases hr with ⟨h0, rfl, rfl⟩
      refine W0 ?_
      have e : insF a l x c = (0, (insK a l x c).2) := by unfold insF; rw [if_pos h0]
      rw [e]
      exact ⟨rfl, _, _, ⟨h0, rfl, rfl⟩, SubS.mkK [] rfl ⟨⟨_, rfl, .same⟩, trivial⟩ (allAsz rfl rfl rfl rfl rfl (as_keep rfl rfl rfl) (sym_keep) (wrd_keep))⟩
   ·have h := nm h
    refine awp_last tab_ok mixed ?_
    refine W0 ?_
    exact hK _ x.arg.v (by unfold insK; rw [if_neg h]) (SubS.mkK [] rfl ⟨⟨_, rfl, .pq rfl⟩, ⟨_, rfl, .pq rfl⟩, ⟨_, rfl, .same⟩, ⟨_, rfl, .pq rfl⟩, ⟨_, rfl, .same⟩, trivial⟩ ⟨.inl ⟨_, _, rfl, rfl, rfl, line_keep⟩, .inl ⟨_, _, rfl, rfl, rfl, opB_le rfl rfl rfl rfl .same .same .same .same .same .same⟩, allAsz rfl rfl rfl rfl rfl (as_keep rfl rfl rfl) sym_keep wrd_keep⟩)
  ·have e : insF a l x c = encF c k := by unfold insF; rw [hk]; rfl
   rw [e]
   unfold insS
   refine pW ?_
   refine c0f (f20 c k hc1 hc2) ⟨opG_le .same .same .same .same .same .same, .same, trivial⟩ rfl ?_
   refine W0 ?_
   refine pW ?_
   refine CallK.heapK (f114 (encF c k).2) [] [] rfl rfl rfl ⟨.same, trivial⟩ trivial 2000 rfl (fun r Hout hr => ?_) (fun r Hout hr => ?_)
   ·rcases hr with ⟨h0, rfl, rfl⟩
    refine W0 ?_
    refine awp_last tab_ok mixed ?_
    refine W0 ?_
    exact ⟨_, _, ⟨h0, rfl, rfl⟩, SubS.mkK [] rfl ⟨⟨_, rfl, .same⟩, trivial⟩ (allAsz rfl rfl rfl rfl rfl (as_keep rfl rfl rfl) (sym_keep) (wrd_keep))⟩
   ·rcases hr with ⟨h0, rfl, rfl⟩
    refine W0 ?_
    exact ⟨rfl, _, _, ⟨h0, rfl, rfl⟩, SubS.mkK [] rfl ⟨⟨_, rfl, .same⟩, trivial⟩ (allAsz rfl rfl rfl rfl rfl (as_keep rfl rfl rfl) (sym_keep) (wrd_keep))⟩
 ·obtain ⟨h12, rfl, rfl⟩ := hr
  omega
end Go.Proofs.YtkeecnoafjhhdaaGreatDoor
namespace Go.Proofs.YtkeecnoafjhhdaaGreatDoor
open Go Go.AM
attribute [local irreducible] AWP CallK PureCall SubS HeapCallK
theorem fnLe {H : Heap} {B : List Nat} {U : List (Nat × Nat)} {fn : Fn} {f g : Nat → AV} : VLe H B U (.func fn 0 f 0 g) (.func fn 0 (getL []) 0 (getL [])) := fn0_le
def datO (n : Nat) : Opr := ⟨frmK 8 [], 1, none, some n, op0⟩
theorem f104 (n : Nat) : PureCall Tryz.prog 104 [fn0 n] (datO n).av := by
 refine pR (by kernel_rfl) Tryz.func104 rfl rfl rfl ?_
 exact ⟨[], oprV .same .same .same .same .same .same .same .same fn0_le .same .same .same .same .same .same⟩
set_option maxHeartbeats 20000000 in
theorem f66 : HeapCallK Tryz.prog 66 [] [] (fun r Hout => r = .obj 200 1 ∧ Hout = [(200, opsO)]) (fun _ _ => False) := by
 refine HeapCallK.run tab_ok mixed (by kernel_rfl) Tryz.func66 rfl rfl rfl ?_
 refine W0 ?_
 refine ⟨fun i hi he => absurd hi (Nat.not_lt_zero i), fun hno => ?_⟩
 clear hno
 refine W0 ?_
 refine ⟨fun i hi he => absurd he ?_, fun hno => ?_⟩
 ·have hi : i < 1 := hi
  match i, hi with
  | 0, _ => exact fun h => absurd (st_inj (a := nBANK) (b := nLOC) h) (by decide)
 clear hno
 refine W0 ?_
 refine ⟨fun i hi he => absurd he ?_, fun hno => ?_⟩
 ·have hi : i < 2 := hi
  match i, hi with
  | 0, _ => exact fun h => absurd (st_inj (a := nBANK) (b := nEBANK) h) (by decide)
  | 1, _ => exact fun h => absurd (st_inj (a := nLOC) (b := nEBANK) h) (by decide)
 clear hno
 refine W0 ?_
 refine ⟨fun i hi he => absurd he ?_, fun hno => ?_⟩
 ·have hi : i < 3 := hi
  match i, hi with
  | 0, _ => exact fun h => absurd (st_inj (a := nBANK) (b := nELOC) h) (by decide)
  | 1, _ => exact fun h => absurd (st_inj (a := nLOC) (b := nELOC) h) (by decide)
  | 2, _ => exact fun h => absurd (st_inj (a := nEBANK) (b := nELOC) h) (by decide)
 clear hno
 refine W0 ?_
 refine ⟨fun i hi he => absurd he ?_, fun hno => ?_⟩
 ·have hi : i < 4 := hi
  match i, hi with
  | 0, _ => exact fun h => absurd (st_inj (a := nBANK) (b := nERASE) h) (by decide)
  | 1, _ => exact fun h => absurd (st_inj (a := nLOC) (b := nERASE) h) (by decide)
  | 2, _ => exact fun h => absurd (st_inj (a := nEBANK) (b := nERASE) h) (by decide)
  | 3, _ => exact fun h => absurd (st_inj (a := nELOC) (b := nERASE) h) (by decide)
 clear hno
 refine W0 ?_
 refine ⟨fun i hi he => absurd he ?_, fun hno => ?_⟩
 ·have hi : i < 5 := hi
  match i, hi with
  | 0, _ => exact fun h => absurd (st_inj (a := nBANK) (b := nEQUALS) h) (by decide)
  | 1, _ => exact fun h => absurd (st_inj (a := nLOC) (b := nEQUALS) h) (by decide)
  | 2, _ => exact fun h => absurd (st_inj (a := nEBANK) (b := nEQUALS) h) (by decide)
  | 3, _ => exact fun h => absurd (st_inj (a := nELOC) (b := nEQUALS) h) (by decide)
  | 4, _ => exact fun h => absurd (st_inj (a := nERASE) (b := nEQUALS) h) (by decide)
 clear hno
 refine W0 ?_
 refine ⟨fun i hi he => absurd he ?_, fun hno => ?_⟩
 ·have hi : i < 6 := hi
  match i, hi with
  | 0, _ => exact fun h => absurd (st_inj (a := nBANK) (b := nOCT) h) (by decide)
  | 1, _ => exact fun h => absurd (st_inj (a := nLOC) (b := nOCT) h) (by decide)
  | 2, _ => exact fun h => absurd (st_inj (a := nEBANK) (b := nOCT) h) (by decide)
  | 3, _ => exact fun h => absurd (st_inj (a := nELOC) (b := nOCT) h) (by decide)
  | 4, _ => exact fun h => absurd (st_inj (a := nERASE) (b := nOCT) h) (by decide)
  | 5, _ => exact fun h => absurd (st_inj (a := nEQUALS) (b := nOCT) h) (by decide)
 clear hno
 refine W0 ?_
 refine ⟨fun i hi he => absurd he ?_, fun hno => ?_⟩
 ·have hi : i < 7 := hi
  match i, hi with
  | 0, _ => exact fun h => absurd (st_inj (a := nBANK) (b := nDEC) h) (by decide)
  | 1, _ => exact fun h => absurd (st_inj (a := nLOC) (b := nDEC) h) (by decide)
  | 2, _ => exact fun h => absurd (st_inj (a := nEBANK) (b := nDEC) h) (by decide)
  | 3, _ => exact fun h => absurd (st_inj (a := nELOC) (b := nDEC) h) (by decide)
  | 4, _ => exact fun h => absurd (st_inj (a := nERASE) (b := nDEC) h) (by decide)
  | 5, _ => exact fun h => absurd (st_inj (a := nEQUALS) (b := nDEC) h) (by decide)
  | 6, _ => exact fun h => absurd (st_inj (a := nOCT) (b := nDEC) h) (by decide)
 clear hno
 refine W0 ?_
 refine c0d (f104 115) ⟨fnLe, trivial⟩ ?_
 refine W0 ?_
 refine ⟨fun i hi he => absurd he ?_, fun hno => ?_⟩
 ·have hi : i < 8 := hi
  match i, hi with
  | 0, _ => exact fun h => absurd (st_inj (a := nBANK) (b := nADRES) h) (by decide)
  | 1, _ => exact fun h => absurd (st_inj (a := nLOC) (b := nADRES) h) (by decide)
  | 2, _ => exact fun h => absurd (st_inj (a := nEBANK) (b := nADRES) h) (by decide)
  | 3, _ => exact fun h => absurd (st_inj (a := nELOC) (b := nADRES) h) (by decide)
  | 4, _ => exact fun h => absurd (st_inj (a := nERASE) (b := nADRES) h) (by decide)
  | 5, _ => exact fun h => absurd (st_inj (a := nEQUALS) (b := nADRES) h) (by decide)
  | 6, _ => exact fun h => absurd (st_inj (a := nOCT) (b := nADRES) h) (by decide)
  | 7, _ => exact fun h => absurd (st_inj (a := nDEC) (b := nADRES) h) (by decide)
 clear hno
 refine W0 ?_
 refine c0d (f104 117) ⟨fnLe, trivial⟩ ?_
 refine W0 ?_
 refine ⟨fun i hi he => absurd he ?_, fun hno => ?_⟩
 ·have hi : i < 9 := hi
  match i, hi with
  | 0, _ => exact fun h => absurd (st_inj (a := nBANK) (b := nCADR) h) (by decide)
  | 1, _ => exact fun h => absurd (st_inj (a := nLOC) (b := nCADR) h) (by decide)
  | 2, _ => exact fun h => absurd (st_inj (a := nEBANK) (b := nCADR) h) (by decide)
  | 3, _ => exact fun h => absurd (st_inj (a := nELOC) (b := nCADR) h) (by decide)
  | 4, _ => exact fun h => absurd (st_inj (a := nERASE) (b := nCADR) h) (by decide)
  | 5, _ => exact fun h => absurd (st_inj (a := nEQUALS) (b := nCADR) h) (by decide)
  | 6, _ => exact fun h => absurd (st_inj (a := nOCT) (b := nCADR) h) (by decide)
  | 7, _ => exact fun h => absurd (st_inj (a := nDEC) (b := nCADR) h) (by decide)
  | 8, _ => exact fun h => absurd (st_inj (a := nADRES) (b := nCADR) h) (by decide)
 clear hno
 refine W0 ?_
 refine c0d (f104 119) ⟨fnLe, trivial⟩ ?_
 refine W0 ?_
 refine ⟨fun i hi he => absurd he ?_, fun hno => ?_⟩
 ·have hi : i < 10 := hi
  match i, hi with
  | 0, _ => exact fun h => absurd (st_inj (a := nBANK) (b := nECADR) h) (by decide)
  | 1, _ => exact fun h => absurd (st_inj (a := nLOC) (b := nECADR) h) (by decide)
  | 2, _ => exact fun h => absurd (st_inj (a := nEBANK) (b := nECADR) h) (by decide)
  | 3, _ => exact fun h => absurd (st_inj (a := nELOC) (b := nECADR) h) (by decide)
  | 4, _ => exact fun h => absurd (st_inj (a := nERASE) (b := nECADR) h) (by decide)
  | 5, _ => exact fun h => absurd (st_inj (a := nEQUALS) (b := nECADR) h) (by decide)
  | 6, _ => exact fun h => absurd (st_inj (a := nOCT) (b := nECADR) h) (by decide)
  | 7, _ => exact fun h => absurd (st_inj (a := nDEC) (b := nECADR) h) (by decide)
  | 8, _ => exact fun h => absurd (st_inj (a := nADRES) (b := nECADR) h) (by decide)
  | 9, _ => exact fun h => absurd (st_inj (a := nCADR) (b := nECADR) h) (by decide)
 clear hno
 refine W0 ?_
 refine ⟨_, _, ⟨rfl, rfl⟩, SubS.mkN [] [(200, 2)] rfl rfl rfl ⟨⟨_, rfl, .obj _ _ _ _ rfl rfl⟩, trivial⟩ ⟨.inr (.inr ⟨_, _, rfl, rfl, rfl, mpLe rfl rfl rfl rfl fun i j hi hj => ?_⟩), trivial⟩⟩
 have hi : i < 11 := by
  rcases hi with h | h
  ·exact h
  ·omega
 match i, hi, j, hj with
 | 0, _, 0, _ => exact .same
 | 0, _, 1, _ => exact oprV (o := oprK 0 [] false) .same .same .same .same .same .same .same fn0_le .same .same .same .same .same .same .same
 | 1, _, 0, _ => exact .same
 | 1, _, 1, _ => exact oprV (o := oprK 1 [] false) .same .same .same .same .same .same .same fn0_le .same .same .same .same .same .same .same
 | 2, _, 0, _ => exact .same
 | 2, _, 1, _ => exact oprV (o := oprK 2 [] false) .same .same .same .same .same .same .same fn0_le .same .same .same .same .same .same .same
 | 3, _, 0, _ => exact .same
 | 3, _, 1, _ => exact oprV (o := oprK 3 [] false) .same .same .same .same .same .same .same fn0_le .same .same .same .same .same .same .same
 | 4, _, 0, _ => exact .same
 | 4, _, 1, _ => exact oprV (o := oprK 4 [] false) .same .same .same .same .same .same .same fn0_le .same .same .same .same .same .same .same
 | 5, _, 0, _ => exact .same
 | 5, _, 1, _ => exact oprV (o := oprK 5 [] false) .same .same .same .same .same .same .same fn0_le .same .same .same .same .same .same .same
 | 6, _, 0, _ => exact .same
 | 6, _, 1, _ => exact oprV (o := oprK 6 [] false) .same .same .same .same .same .same .same .same fn0_le .same .same .same .same .same .same
 | 7, _, 0, _ => exact .same
 | 7, _, 1, _ => exact oprV (o := oprK 7 [] false) .same .same .same .same .same .same .same .same fn0_le .same .same .same .same .same .same
 | 8, _, 0, _ => exact .same
 | 8, _, 1, _ => exact opr_le (oprK 8 [] false)
 | 9, _, 0, _ => exact .same
 | 9, _, 1, _ => exact opr_le (oprK 9 [] false)
 | 10, _, 0, _ => exact .same
 | 10, _, 1, _ => exact opr_le (oprK 10 [] false)
def asZ : AsS := ⟨2, 0, 64, 0, false, fun _ => 0⟩
set_option maxHeartbeats 2000000 in
theorem f35 : HeapCallK Tryz.prog 35 [] [] (fun r Hout => r = .ptr 100 0 44 0 0 ∧ Hout = asH asZ [] []) (fun _ _ => False) := by
 refine HeapCallK.run tab_ok mixed (by kernel_rfl) Tryz.func35 rfl rfl rfl ?_
 refine W0 ?_
 refine CallK.heapK f66 [] [] rfl rfl rfl trivial trivial 2000 rfl (fun r Hout hr => ?_) (fun r Hout hr => hr.elim)
 obtain ⟨rfl, rfl⟩ := hr
 refine W0 ?_
 refine ⟨_, _, ⟨rfl, rfl⟩, SubS.mkN [] [(100, 5), (101, 2200), (102, 2), (103, 3)] rfl rfl rfl ⟨⟨_, rfl, .pq rfl⟩, trivial⟩ ⟨.inl ⟨_, _, rfl, rfl, rfl, asLe rfl rfl rfl rfl .same .same .same .same .same (.obj _ _ _ _ rfl rfl) (.obj _ _ _ _ rfl rfl) (.obj _ _ _ _ rfl rfl) fun j hj => ?_⟩, .inr (.inr ⟨_, _, rfl, rfl, rfl, ops_keepR⟩), .inr (.inr ⟨_, _, rfl, rfl, rfl, mpLe0 rfl rfl rfl rfl fun _ _ _ _ => rfl⟩), .inr (.inr ⟨_, _, rfl, rfl, rfl, mpLe0 rfl rfl rfl rfl fun _ _ _ _ => rfl⟩), trivial⟩⟩
 match j, hj with
 | 0, _ => exact .same
 | 1, _ => exact .same
 | 2, _ => exact .same
 | 3, _ => exact .same
 | 4, _ => exact .same
 | 5, _ => exact .same
 | 6, _ => exact .same
 | 7, _ => exact .same
 | 8, _ => exact .same
 | 9, _ => exact .same
 | 10, _ => exact .same
 | 11, _ => exact .same
 | 12, _ => exact .same
 | 13, _ => exact .same
 | 14, _ => exact .same
 | 15, _ => exact .same
 | 16, _ => exact .same
 | 17, _ => exact .same
 | 18, _ => exact .same
 | 19, _ => exact .same
 | 20, _ => exact .same
 | 21, _ => exact .same
 | 22, _ => exact .same
 | 23, _ => exact .same
 | 24, _ => exact .same
 | 25, _ => exact .same
 | 26, _ => exact .same
 | 27, _ => exact .same
 | 28, _ => exact .same
 | 29, _ => exact .same
 | 30, _ => exact .same
 | 31, _ => exact .same
 | 32, _ => exact .same
 | 33, _ => exact .same
 | 34, _ => exact .same
 | 35, _ => exact .same
 | q + 36, hq => exact absurd hq (by omega)
theorem SubS.mkDK {st : ASt} {n : Nat} {s : List (Nat × AV)} {h : List (Nat × AO)} {kp : List Nat} {v0 v : AV} (B : List Nat) (hn : n = st.nt) (hs : AllS st B (idR st.used h) s) (hh : AllH st B (idR st.used h) h) (hv : VLe st.heap B (idR st.used h) v0 v)
  (hk : (kp.all fun i => memN i st.used && memN i (keysL h)) = true := by rfl) (hx : st.x = XDK v0 kp := by rfl) : SubS st (mkStX n s h (XDK v kp)) :=
 SubS.mkX B hn hs hh ⟨by rw [hx]; rfl, by rw [hx]; rfl, by rw [hx]; rfl, by rw [hx]; rfl, by rw [hx]; rfl, by rw [hx]; rfl, by
  simp only [XDK, List.all_eq_true, Bool.and_eq_true] at hk ⊢
  intro i hi
  rw [idR_self (hk i hi).1 (hk i hi).2]
  simp, fun t v' ht => by
  replace ht : (bif Nat.beq t 0 then some v else none) = some v' := ht
  cases hb : Nat.beq t 0 with
  | true =>
    rw [hb] at ht
    obtain rfl := Option.some.inj ht
    refine ⟨v0, ?_, hv⟩
    rw [hx]
    show (bif Nat.beq t 0 then some v0 else none) = _
    rw [hb]; rfl
  | false => rw [hb] at ht; cases ht⟩
def clO (E : Nat) (v : AV) : AO := ⟨E, 0, 1, 1, fun _ _ => v⟩
theorem clLe {H : Heap} {B : List Nat} {U : List (Nat × Nat)} {o : AO} {E : Nat} {v : AV} (e1 : o.E = E) (e2 : o.gen = 0) (e3 : o.sz = 1) (e4 : o.n = 1) (h0 : VLe H B U (o.f 0 0) v) : OLe H B U o (clO E v) :=
 ⟨e1.symm, e2.symm, e3.symm, Nat.le_of_eq e4.symm, fun i j hi hj => by
   have hi0 : i = 0 := Nat.lt_one_iff.mp hi
   subst hi0
   rw [e3] at hj
   have hj0 : j = 0 := Nat.lt_one_iff.mp hj
   subst hj0
   exact h0⟩
abbrev kpA : List Nat := [100, 101, 102, 103]
def dfF (g : Nat) : AV := .func (.func g) 0 (getL []) 1 (getL [.ptr 4 0 1 0 0])
theorem dfLe {H : Heap} {B : List Nat} {U : List (Nat × Nat)} {g : Nat} {f h : Nat → AV} (h0 : VLe H B U (h 0) (.ptr 4 0 1 0 0)) : VLe H B U (.func (.func g) 0 f 1 h) (dfF g) :=
 .func _ _ _ _ _ _ _ (fun i hi => absurd hi (Nat.not_lt_zero i)) fun i hi => by
  have hi0 : i = 0 := Nat.lt_one_iff.mp hi
  subst hi0
  exact h0
def dfS (n g : Nat) (y : Int) (a : AsS) (l : List Sym) (w : List (Nat × Nat)) : ASt := mkStX n [(4, .ptr 4 0 1 0 0)] ((4, clO 28 (i64 y)) :: asH a l w) (XDK (dfF g) kpA)
noncomputable def cgF (f : Func) : Code := match f.body with
 | some (.seq _ c) => c
 | _ => .skip
set_option maxHeartbeats 4000000 in
theorem rec65 {n : Nat} {y e : Int} {a : AsS} {l : List Sym} {w : List (Nat × Nat)} {post : AV → List (Nat × AO) → Prop} (hp : post (i64 e) (asH a l w)) : recFK Tryz.prog tab Tryz.f65.results.toList (cgF Tryz.f99) Tryz.f99.ntmps 1 4 1 99 kpA post (faultV e) (dfS n 99 y a l w) := by
 refine ⟨rfl, _, _, rfl, ?_⟩
 refine W0 ?_
 refine ⟨rfl, ?_⟩
 refine W0 ?_
 refine W0 ?_
 exact ⟨_, _, hp, SubS.mkK [] rfl ⟨⟨_, rfl, .same⟩, trivial⟩ (allAsz rfl rfl rfl rfl rfl (as_keep rfl rfl rfl) (sym_keep) (wrd_keep))⟩
theorem ret65 {n : Nat} {y : Int} {a : AsS} {l : List Sym} {w : List (Nat × Nat)} {post : AV → List (Nat × AO) → Prop} (hp : post (i64 y) (asH a l w)) : recFK Tryz.prog tab Tryz.f65.results.toList (cgF Tryz.f99) Tryz.f99.ntmps 1 4 1 99 kpA post (.pv .nilI) (dfS n 99 y a l w) := by
 refine ⟨rfl, _, _, rfl, ?_⟩
 refine W0 ?_
 refine ⟨rfl, ?_⟩
 refine W0 ?_
 refine W0 ?_
 exact ⟨_, _, hp, SubS.mkK [] rfl ⟨⟨_, rfl, .same⟩, trivial⟩ (allAsz rfl rfl rfl rfl rfl (as_keep rfl rfl rfl) (sym_keep) (wrd_keep))⟩
set_option maxHeartbeats 4000000 in
theorem rec37 {n : Nat} {y e : Int} {a : AsS} {l : List Sym} {w : List (Nat × Nat)} {post : AV → List (Nat × AO) → Prop} (hp : post (i64 e) (asH a l w)) : recFK Tryz.prog tab Tryz.f37.results.toList (cgF Tryz.f67) Tryz.f67.ntmps 1 4 1 67 kpA post (faultV e) (dfS n 67 y a l w) := by
 refine ⟨rfl, _, _, rfl, ?_⟩
 refine W0 ?_
 refine ⟨rfl, ?_⟩
 refine W0 ?_
 refine W0 ?_
 exact ⟨_, _, hp, SubS.mkK [] rfl ⟨⟨_, rfl, .same⟩, trivial⟩ (allAsz rfl rfl rfl rfl rfl (as_keep rfl rfl rfl) (sym_keep) (wrd_keep))⟩
theorem ret37 {n : Nat} {y : Int} {a : AsS} {l : List Sym} {w : List (Nat × Nat)} {post : AV → List (Nat × AO) → Prop} (hp : post (i64 y) (asH a l w)) : recFK Tryz.prog tab Tryz.f37.results.toList (cgF Tryz.f67) Tryz.f67.ntmps 1 4 1 67 kpA post (.pv .nilI) (dfS n 67 y a l w) := by
 refine ⟨rfl, _, _, rfl, ?_⟩
 refine W0 ?_
 refine ⟨rfl, ?_⟩
 refine W0 ?_
 refine W0 ?_
 exact ⟨_, _, hp, SubS.mkK [] rfl ⟨⟨_, rfl, .same⟩, trivial⟩ (allAsz rfl rfl rfl rfl rfl (as_keep rfl rfl rfl) (sym_keep) (wrd_keep))⟩
theorem opK_le (n : List UInt8) : opK n ≤ 12 := by
 unfold opK
 by_cases e0 : n = nBANK
 ·rw [if_pos e0]; decide
 rw [if_neg e0]
 by_cases e1 : n = nLOC
 ·rw [if_pos e1]; decide
 rw [if_neg e1]
 by_cases e2 : n = nEBANK
 ·rw [if_pos e2]; decide
 rw [if_neg e2]
 by_cases e3 : n = nELOC
 ·rw [if_pos e3]; decide
 rw [if_neg e3]
 by_cases e4 : n = nERASE
 ·rw [if_pos e4]; decide
 rw [if_neg e4]
 by_cases e5 : n = nEQUALS
 ·rw [if_pos e5]; decide
 rw [if_neg e5]
 by_cases e6 : n = nOCT
 ·rw [if_pos e6]; decide
 rw [if_neg e6]
 by_cases e7 : n = nDEC
 ·rw [if_pos e7]; decide
 rw [if_neg e7]
 by_cases e8 : n = nADRES
 ·rw [if_pos e8]; decide
 rw [if_neg e8]
 by_cases e9 : n = nCADR
 ·rw [if_pos e9]; decide
 rw [if_neg e9]
 by_cases e10 : n = nECADR
 ·rw [if_pos e10]; decide
 rw [if_neg e10]
 by_cases e : codeOf n ≠ 0
 ·rw [if_pos e]; decide
 rw [if_neg e]; decide
theorem opK_lt {n : List UInt8} (h : opK n ≠ 12) : opK n ≤ 11 := by have := opK_le n; omega
def wdN (k : Nat) : Nat := match k with | 6 => 111 | 7 => 112 | 8 => 115 | 9 => 117 | 10 => 119 | _ => 120
theorem opr_prep {n : List UInt8} (m : Bool) (h : opK n ≤ 5) : oprF n m = ⟨frmK (opK n) n, 0, some (105 + opK n), none, op0⟩ := by
 unfold oprF
 generalize opK n = k at *
 match k, h with
 | 0, _ => rfl
 | 1, _ => rfl
 | 2, _ => rfl
 | 3, _ => rfl
 | 4, _ => rfl
 | 5, _ => rfl
theorem opr_word {n : List UInt8} (m : Bool) (h : 6 ≤ opK n) (h' : opK n ≤ 11) : ∃ op, oprF n m = ⟨frmK (opK n) n, (cntK (opK n) n m : Nat), none, some (wdN (opK n)), op⟩ ∧ (opK n = 11 → op = opR (codeOf n)) := by
 unfold oprF
 generalize opK n = k at *
 match k, h, h' with
 | 6, _, _ => exact ⟨op0, rfl, fun h => absurd h (by decide)⟩
 | 7, _, _ => exact ⟨op0, rfl, fun h => absurd h (by decide)⟩
 | 8, _, _ => exact ⟨op0, rfl, fun h => absurd h (by decide)⟩
 | 9, _, _ => exact ⟨op0, rfl, fun h => absurd h (by decide)⟩
 | 10, _, _ => exact ⟨op0, rfl, fun h => absurd h (by decide)⟩
 | 11, _, _ => exact ⟨opR (codeOf n), rfl, fun _ => rfl⟩
def doK (k : Nat) (s : St) (l : Line) : Rs St :=
 match k with
 | 0 => .ok { s with bank := l.arg.v.toNat, off := aftF s.used l.arg.v.toNat, mark := false }
 | 1 => .ok { s with bank := l.arg.v.toNat / 1024, off := l.arg.v.toNat % 1024, mark := false }
 | 2 => .ok { s with eb := l.arg.v.toNat }
 | 3 => .ok { s with er := l.arg.v }
 | 4 => eraseF s l
 | 5 => equalsF s l
 | k => place s l (cntK k l.op s.mark)
theorem doF_k (s : St) (l : Line) : doF s l = doK (opK l.op) s l := by
 unfold doF
 generalize opK l.op = k
 match k with
 | 0 => rfl
 | 1 => rfl
 | 2 => rfl
 | 3 => rfl
 | 4 => rfl
 | 5 => rfl
 | k + 6 => rfl
theorem doF_used {s s1 : St} {l : Line} (h : opK l.op ≤ 5) (hd : doF s l = .ok s1) : s1.used = s.used := by
 rw [doF_k] at hd
 generalize opK l.op = k at *
 have hdef : ∀ {sn : List UInt8} {sp : Nat} {ad : Int} {s2 : St}, defS s sn sp ad = some s2 → s2.used = s.used := fun {sn sp ad s2} h => by
  rw [defS_L] at h
  cases hl : defL s.syms sn sp ad with
  | none => rw [hl] at h; cases h
  | some sy => rw [hl] at h; rw [← Option.some.inj h]
 match k, h with
 | 0, _ => rw [← Except.ok.inj hd]
 | 1, _ => rw [← Except.ok.inj hd]
 | 2, _ => rw [← Except.ok.inj hd]
 | 3, _ => rw [← Except.ok.inj hd]
 | 4, _ =>
   have hd : eraseF s l = .ok s1 := hd
   unfold eraseF at hd
   split at hd
   ·cases hd
   ·split at hd
    ·cases hd
    ·rename_i s2 h2
     rw [← Except.ok.inj hd]; exact (hdef h2 : s2.used = s.used)
 | 5, _ =>
   have hd : equalsF s l = .ok s1 := hd
   unfold equalsF at hd
   split at hd
   ·split at hd
    ·cases hd
    ·rename_i h2
     rw [← Except.ok.inj hd]; exact hdef h2
   ·split at hd
    ·cases hd
    ·split at hd
     ·cases hd
     ·split at hd
      ·cases hd
      ·rename_i h2
       rw [← Except.ok.inj hd]; exact hdef h2
theorem okP_of {R : Rs St} {w : List (Nat × Nat)} {a : AsS} {l : List Sym} {s1 : St} (h : R = .ok s1) (ha : a = asOf s1) (hl : l = s1.syms) {r : AV} {Hout : List (Nat × AO)} (hr : r = tupV [] ∧ Hout = asH a l w) : okP R w r Hout := ⟨s1, h, hr.1, by rw [hr.2, ha, hl]⟩
theorem HeapCallK.imp {f : FuncId} {args : List AV} {Hin : List (Nat × AO)} {post post' postP postP' : AV → List (Nat × AO) → Prop} (h : HeapCallK Tryz.prog f args Hin post postP) (h1 : ∀ r Hout, post r Hout → post' r Hout) (h2 : ∀ r Hout, postP r Hout → postP' r Hout) : HeapCallK Tryz.prog f args Hin post' postP' := by
 unfold HeapCallK at h ⊢
 obtain ⟨a, b⟩ := h
 refine ⟨a, fun φ M N w xs hm he ha => (b φ M N w xs hm he ha).mono ?_⟩
 rintro e w' ⟨x, r, Hout, φ', M', h | h, hrest⟩
 ·exact ⟨x, r, Hout, φ', M', .inl ⟨h.1, h1 _ _ h.2⟩, hrest⟩
 ·exact ⟨x, r, Hout, φ', M', .inr ⟨h.1, h2 _ _ h.2⟩, hrest⟩
theorem prep (s : St) (w : List (Nat × Nat)) (x : Line) (hw : Wf s) (ha : Adm x) (h : opK x.op ≤ 5) : HeapCallK Tryz.prog (105 + opK x.op) [.ptr 100 0 44 0 0, x.av] (asH (asOf s) s.syms w) (okP (doF s x) w) (erP (doF s x)) := by
 have hal := ha.al
 have hrg := ha.rg
 have hp := (prn_ok ha.pr).2
 rw [doF_k]
 generalize opK x.op = k at *
 match k, h with
 | 0, _ =>
   have h4 : (0 : Int) ≤ x.arg.v ∧ x.arg.v ≤ 35 := hrg (alw_num hal rfl rfl)
   refine HeapCallK.imp (f105 (asOf s) s.syms w x h4) (fun r Hout hr => okP_of rfl ?_ rfl hr) fun _ _ h => h.elim
   unfold asOf; congr 1; dsimp only; omega
 | 1, _ =>
   have h4 : (0 : Int) ≤ x.arg.v ∧ x.arg.v ≤ 36863 := hrg (alw_num hal rfl rfl)
   refine HeapCallK.imp (f106 (asOf s) s.syms w x h4) (fun r Hout hr => okP_of rfl ?_ rfl hr) fun _ _ h => h.elim
   unfold asOf; congr 1 <;> dsimp only <;> omega
 | 2, _ =>
   have h4 : (0 : Int) ≤ x.arg.v ∧ x.arg.v ≤ 7 := hrg (alw_num hal rfl rfl)
   refine HeapCallK.imp (f107 (asOf s) s.syms w x) (fun r Hout hr => okP_of rfl ?_ rfl hr) fun _ _ h => h.elim
   unfold asOf; congr 1; dsimp only; omega
 | 3, _ => exact HeapCallK.imp (f108 (asOf s) s.syms w x) (fun r Hout hr => okP_of rfl rfl rfl hr) fun _ _ h => h.elim
 | 4, _ => exact f109 s w x hw hp
 | 5, _ => exact f110 s w x hw hp
end Go.Proofs.YtkeecnoafjhhdaaGreatDoor
namespace Go.Proofs.YtkeecnoafjhhdaaGreatDoor
open Go Go.AM
def wrdP (q : Nat × Nat) : AV × AV := (i64 q.1, u16 q.2)
theorem wrdO_ren (w : List (Nat × Nat)) (ρ : Nat → Nat) : AO.ren ρ (wrdO w) = wrdO w := by
 unfold wrdO
 rw [mpO_ren]; rfl
theorem wrd_at {w : List (Nat × Nat)} {i : Nat} {k : Int} (hi : i < (wrdO w).E) (h : (wrdO w).f i 0 = i64 k) : ∃ q ∈ w, (q.1 : Int) = k := by
 have hl : i < w.length := by have : (wrdO w).E = (w.map wrdP).length := rfl; rw [this, List.length_map] at hi; exact hi
 have e : (w.map wrdP).getD i (.nilS, .nilS) = wrdP w[i] := by rw [List.getD_eq_getElem?_getD, List.getElem?_map, List.getElem?_eq_getElem hl]; rfl
 have h0 : (wrdO w).f i 0 = i64 w[i].1 := by show ((w.map wrdP).getD i (.nilS, .nilS)).1 = _; rw [e]; rfl
 refine ⟨w[i], List.getElem_mem hl, ?_⟩
 have := h0.symm.trans h
 unfold i64 at this
 injection this with this
 injection this
theorem wrd_of {w : List (Nat × Nat)} {q : Nat × Nat} (h : q ∈ w) : ∃ i, i < (wrdO w).E ∧ (wrdO w).f i 0 = i64 q.1 := by
 obtain ⟨i, hl, rfl⟩ := List.getElem_of_mem h
 have e : (w.map wrdP).getD i (.nilS, .nilS) = wrdP w[i] := by rw [List.getD_eq_getElem?_getD, List.getElem?_map, List.getElem?_eq_getElem hl]; rfl
 exact ⟨i, by show i < (w.map wrdP).length; rw [List.length_map]; exact hl, by show ((w.map wrdP).getD i (.nilS, .nilS)).1 = _; rw [e]; rfl⟩
theorem w6_mem {u : List Nat} {q : Nat × Nat} : q ∈ w6 u ↔ q.2 = 6 ∧ q.1 ∈ u := by
 unfold w6
 rw [List.mem_map]
 constructor
 ·rintro ⟨a, ha, rfl⟩; exact ⟨rfl, ha⟩
 ·rintro ⟨h1, h2⟩; exact ⟨q.1, h2, Prod.ext rfl h1.symm⟩
theorem wrd_at6 {u : List Nat} {i : Nat} {k : Nat} (hi : i < (wrdO (w6 u)).E) (h : (wrdO (w6 u)).f i 0 = i64 k) : k ∈ u := by
 obtain ⟨q, hq, e⟩ := wrd_at hi h
 have : q.1 = k := by omega
 rw [← this]; exact (w6_mem.mp hq).2
theorem wrd_of6 {u : List Nat} {k : Nat} (h : k ∈ u) : ∃ i, i < (wrdO (w6 u)).E ∧ (wrdO (w6 u)).f i 0 = i64 k := wrd_of (q := (k, 6)) (w6_mem.mpr ⟨rfl, h⟩)
theorem wrd_push {H : Heap} {B : List Nat} {U : List (Nat × Nat)} {w : List (Nat × Nat)} {k v : Nat} {kv vv : AV} (hk : kv = i64 k) (h : VLe H B U vv (u16 v)) : ObLe H B U ⟨(wrdO w).E + 1, (wrdO w).gen, 0, 0, pushV (wrdO w).f (wrdO w).E kv vv⟩ (wrdO (w ++ [(k, v)])) := by
 subst hk
 have e1 : (wrdO w).E = w.length := List.length_map ..
 rw [e1]
 exact mpLeS (p := wrdP) (q := wrdP) rfl rfl rfl rfl rfl rfl (fun _ _ => ⟨.same, .same⟩) .same h
theorem newA_succ (s : St) (i : Nat) : newA s (i + 1) = newA s i ++ [s.adr + i] := by
 unfold newA
 rw [List.range_succ, List.map_append]; rfl
theorem w6_app (u v : List Nat) : w6 (u ++ v) = w6 u ++ w6 v := List.map_append
theorem used_mem {s : St} {i : Nat} : s.adr + i ∈ s.used ++ newA s i ↔ s.adr + i ∈ s.used := by
 rw [List.mem_append]
 constructor
 ·rintro (h | h)
  ·exact h
  ·have := newA_mem h; omega
 ·exact .inl
theorem ren_at {w : List (Nat × Nat)} {ρ : Nat → Nat} {i j : Nat} : (AO.ren ρ (wrdO w)).f i j = (wrdO w).f i j := by rw [wrdO_ren]
theorem wrd_next {H : Heap} {B : List Nat} {U : List (Nat × Nat)} {s : St} {i : Nat} {ρ : Nat → Nat} {kv vv : AV} (hk : kv = i64 ((s.adr + i : Nat) : Int)) (h : VLe H B U vv (u16 (6 : Nat))) :
  ObLe H B U ⟨(AO.ren ρ (wrdO (w6 (s.used ++ newA s i)))).E + 1, (AO.ren ρ (wrdO (w6 (s.used ++ newA s i)))).gen, 0, 0, pushV (AO.ren ρ (wrdO (w6 (s.used ++ newA s i)))).f (AO.ren ρ (wrdO (w6 (s.used ++ newA s i)))).E kv vv⟩ (wrdO (w6 (s.used ++ newA s (i + 1)))) := by
 rw [wrdO_ren, newA_succ, ← List.append_assoc, w6_app (s.used ++ newA s i)]
 exact wrd_push hk h
theorem as_adv (s : St) (sy : List Sym) (n : Nat) (m : Bool) (hn : n = 1 ∨ n = 2) (h : s.off + n ≤ 1024) : ({ asOf s with off := (asOf s).off + (n : Int), aft := setA (asOf s).aft (asOf s).bank.toNat (max ((asOf s).aft (asOf s).bank.toNat) ((asOf s).off + (n : Int))), mark := m } : AsS) = asOf { s with syms := sy, off := s.off + n, mark := m, used := s.used ++ newA s n } := by
 have key : setA (fun b => ((aftF s.used b : Nat) : Int)) ((s.bank : Int)).toNat (max ((aftF s.used ((s.bank : Int)).toNat : Nat) : Int) ((s.off : Int) + n)) = fun b => ((aftF (s.used ++ newA s n) b : Nat) : Int) := by
  funext b
  rw [aft_new s n b hn h, show ((s.bank : Int)).toNat = s.bank from rfl]
  unfold setA
  by_cases hb : b = s.bank
  ·subst hb; rw [if_pos rfl, if_pos rfl]; omega
  ·rw [if_neg hb, if_neg hb]
 show AsS.mk (s.bank : Int) ((s.off : Int) + n) s.er (s.eb : Int) m (setA (fun b => ((aftF s.used b : Nat) : Int)) ((s.bank : Int)).toNat (max ((aftF s.used ((s.bank : Int)).toNat : Nat) : Int) ((s.off : Int) + n))) = AsS.mk (s.bank : Int) ((s.off + n : Nat) : Int) s.er (s.eb : Int) m (fun b => ((aftF (s.used ++ newA s n) b : Nat) : Int))
 rw [key]; rfl
theorem place_full {s : St} {l : Line} {n : Nat} (h : 1024 < s.off + n) : place s l n = .error 13 := by unfold place; rw [if_pos h]
theorem place_dup {s : St} {l : Line} {n : Nat} (h : ¬ 1024 < s.off + n) (hd : defL s.syms l.lab 2 s.adr = none) : place s l n = .error 8 := by unfold place; rw [if_neg h, defS_L, hd]; rfl
theorem place_used {s : St} {l : Line} {n i : Nat} {sy : List Sym} (h : ¬ 1024 < s.off + n) (hd : defL s.syms l.lab 2 s.adr = some sy) (hi : i < n) (hu : s.adr + i ∈ s.used) : place s l n = .error 8 := by
 unfold place
 rw [if_neg h, defS_L, hd]
 dsimp only [Option.map]
 rw [if_pos (List.any_eq_true.mpr ⟨i, List.mem_range.mpr hi, by simpa using hu⟩)]
theorem place_done {s : St} {l : Line} {n : Nat} {sy : List Sym} (h : ¬ 1024 < s.off + n) (hd : defL s.syms l.lab 2 s.adr = some sy) (hu : ∀ i, i < n → s.adr + i ∉ s.used) : place s l n = .ok { s with syms := sy, off := s.off + n, mark := decide (l.op = nXINDEX), used := s.used ++ newA s n } := by
 unfold place
 rw [if_neg h, defS_L, hd]
 dsimp only [Option.map]
 have h2 : (List.range n).any (fun i => s.used.contains (s.adr + i)) = false := by
  rw [List.any_eq_false]
  intro i hi
  have := hu i (List.mem_range.mp hi)
  simpa using this
 rw [h2]; rfl
end Go.Proofs.YtkeecnoafjhhdaaGreatDoor
namespace Go.Proofs.YtkeecnoafjhhdaaGreatDoor
open Go Go.AM
def ta210 : Tr := .alt 0 (.alt 1 (.alt 3 (.br 2 (.alt 4 (.alt 5 .done)) (.alt 4 (.alt 2 (.alt 5 .done))))))
attribute [local irreducible] AWP CallK PureCall SubS HeapCallK
def fstP (s : St) (x : Line) (r : AV) (Hout : List (Nat × AO)) : Prop :=
 (∃ s1, stepF s x = .ok s1 ∧ r = i64 0 ∧ Hout = asH (asOf s1) s1.syms (w6 s1.used)) ∨ (∃ e, stepF s x = .error e ∧ r = i64 e ∧ ∃ a l w, Hout = asH a l w)
noncomputable abbrev Q65 (post : AV → List (Nat × AO) → Prop) : APost := recQK Tryz.prog tab Tryz.f65.results.toList (cgF Tryz.f99) Tryz.f99.ntmps 1 4 1 99 kpA post
theorem dret65 {st : ASt} {post : AV → List (Nat × AO) → Prop} (a : AsS) (l : List Sym) (w : List (Nat × Nat)) (h : SubS st (dfS 123 99 0 a l w)) (hp : post (i64 0) (asH a l w)) : Q65 post .ret st := ⟨_, h, ret65 hp⟩
def only (st : ASt) (k : Nat) : ASt := ⟨st.nt, fun t => bif Nat.beq t k then st.slots k else none, st.heap, st.used, st.x⟩
theorem only_slots {st : ASt} {k : Nat} {φ : Names} {a : Act} {w : World} {M : Blocks} (hs : ∀ t v, st.slots t = some v → ∃ x, a.tmps[t]? = some x ∧ Ra φ w M v x) : ∀ t v, (only st k).slots t = some v → ∃ x, a.tmps[t]? = some x ∧ Ra φ w M v x := fun t v ht => by
 replace ht : (bif Nat.beq t k then st.slots k else none) = some v := ht
 cases hb : Nat.beq t k with
 | true => rw [hb] at ht; obtain rfl := Nat.eq_of_beq_eq_true hb; exact hs t v ht
 | false => rw [hb] at ht; cases ht
theorem SubS.only (st : ASt) (k : Nat) : SubS st (only st k) := by
 unfold SubS
 exact fun K φ M a w hg => ⟨φ, M, ⟨only_slots hg.slots, hg.gslots, hg.nms, hg.mem, hg.wide, hg.yl, hg.valid, hg.inr, hg.rdd⟩⟩
def R65 (s : St) (x : Line) : APost := fun e st => match e with
 | .panic v => ∃ e a l w, v = faultV e ∧ stepF s x = .error e ∧ SubS (only st 4) (dfS 123 99 0 a l w)
 | e => Q65 (fstP s x) e st
theorem R65Q {s : St} {x : Line} {e : AExit} {st : ASt} (h : R65 s x e st) : Q65 (fstP s x) e st := by
 cases e with
 | panic v =>
   obtain ⟨e, a, l, w, rfl, hp, h⟩ := h
   exact ⟨rfl, _, SubS.trans (SubS.only st 4) h, rec65 (.inr ⟨e, hp, rfl, a, l, w, rfl⟩)⟩
 | normal => exact h
 | ret => exact h
 | exit i => exact h
theorem r65Q {sx : St} {x : Line} {r : AV} {nt : Nat} {s s' : Nat → Option AV} {H : Heap} {U : List Nat} {X : Ext} (h1 : ∀ t, Nat.beq t 4 = true → s t = s' t) (h : R65 sx x (.panic r) ⟨nt, s, H, U, X⟩) : R65 sx x (.panic r) ⟨nt, s', H, U, X⟩ := by
 obtain ⟨e, a, l, w, h2, hp, h⟩ := h
 refine ⟨e, a, l, w, h2, hp, ?_⟩
 unfold only at h ⊢
 dsimp only at h ⊢
 rw [← h1 4 rfl]; exact h
theorem dpan65 {st : ASt} {s : St} {x : Line} {e : Int} (a : AsS) (l : List Sym) (w : List (Nat × Nat)) (h : SubS (only st 4) (dfS 123 99 0 a l w)) (hp : stepF s x = .error e) : R65 s x (.panic (faultV e)) st := ⟨e, a, l, w, rfl, hp, h⟩
def fsS (s : St) (x : Line) : ASt := mkStX 123 [(0, .ptr 100 0 44 0 0), (3, .ptr 3 0 5 0 0), (4, .ptr 4 0 1 0 0)] ((3, lineO x) :: (4, clO 28 (i64 0)) :: asH (asOf s) s.syms (w6 s.used)) (XDK (dfF 99) kpA)
def f9S (o : Opr) (s : St) (x : Line) : ASt := mkStX 123 [(0, .ptr 100 0 44 0 0), (3, .ptr 3 0 5 0 0), (4, .ptr 4 0 1 0 0), (7, .ptr 7 0 15 0 0)] ((3, lineO x) :: (4, clO 28 (i64 0)) :: (7, oprB o) :: asH (asOf s) s.syms (w6 s.used)) (XDK (dfF 99) kpA)
def plO (F : Frm) (n d : Nat) (op : OpR) : Opr := ⟨F, (n : Nat), none, some d, op⟩
def f16S (o : Opr) (s : St) (sy : List Sym) (x : Line) : ASt := mkStX 123 [(0, .ptr 100 0 44 0 0), (3, .ptr 3 0 5 0 0), (4, .ptr 4 0 1 0 0), (7, .ptr 7 0 15 0 0)] ((3, lineO x) :: (4, clO 28 (i64 0)) :: (7, oprB o) :: asH (asOf s) sy (w6 s.used)) (XDK (dfF 99) kpA)
def rndS (o : Opr) (s : St) (sy : List Sym) (x : Line) (n i : Nat) : ASt := mkStX 123 [(0, .ptr 100 0 44 0 0), (3, .ptr 3 0 5 0 0), (4, .ptr 4 0 1 0 0), (7, .ptr 7 0 15 0 0), (91, i64 n), (92, i64 i)] ((3, lineO x) :: (4, clO 28 (i64 0)) :: (7, oprB o) :: asH (asOf s) sy (w6 (s.used ++ newA s i))) (XDK (dfF 99) kpA)
set_option maxHeartbeats 4000000 in
theorem f65 (s : St) (x : Line) (hw : Wf s) (hx : LineB x) : HeapCallK Tryz.prog 65 [.ptr 100 0 44 0 0, x.av] (asH (asOf s) s.syms (w6 s.used)) (fstP s x) (fun _ _ => False) := by
 refine HeapCallK.recover (g := 99) (nc := 1) tab_ok mixed (by kernel_rfl) Tryz.func65 rfl rfl rfl rfl rfl (by kernel_rfl) Tryz.func99 rfl rfl rfl (by decide) (by decide) (by decide) (by decide) (by decide) ?_
 refine W0 ?_
 refine ⟨rfl, _, _, rfl, ?_⟩
 refine AWP.sub (st' := fsS s x) (SubS.mkDK [] rfl ⟨⟨_, rfl, .pq rfl⟩, ⟨_, rfl, .pq rfl⟩, ⟨_, rfl, .pq rfl⟩, trivial⟩
  ⟨.inl ⟨_, _, rfl, rfl, rfl, line_box rfl rfl rfl rfl fun _ => rfl⟩, .inl ⟨_, _, rfl, rfl, rfl, clLe rfl rfl rfl rfl .same⟩, allAsz rfl rfl rfl rfl rfl (as_keep rfl rfl rfl) sym_keep wrd_keep⟩ (dfLe (h := getL [.ptr 4 0 1 0 0]) (.pq rfl))) ?_
 show AWP _ _ (Q65 (fstP s x)) _
 refine AWP.mono ?_ fun _ _ h => R65Q h
 unfold fsS
 refine pW ?_
 refine c0f (tk23 x hx) ⟨lineV .same .same .same .same .same, trivial⟩ rfl ?_
 refine W0 ?_
 have hb : 0 ≤ (asOf s).bank ∧ (asOf s).bank < 65536 := ⟨Int.natCast_nonneg _, by have := hw.bank; show (s.bank : Int) < 65536; omega⟩
 have ho' : 0 ≤ (asOf s).off ∧ (asOf s).off < 65536 := ⟨Int.natCast_nonneg _, by have := hw.off; show (s.off : Int) < 65536; omega⟩
 have step1 : (print x).2 ≠ 0 → stepF s x = .error 2 := fun h => by unfold stepF; rw [if_pos h]
 by_cases hp : (print x).2 = 0
 ·refine pW ?_
  refine CallK.heapK (f101 true _) [] [] rfl rfl rfl ⟨VLe.bool (beq_iff_eq.mpr hp), .same, trivial⟩ trivial 2000 rfl (fun r Hout hr => ?_) (fun r Hout hr => absurd hr.1 (by decide))
  rcases hr with ⟨_, rfl, rfl⟩
  refine W0 ?_
  refine awp_seq ?_
  refine pW ?_
  refine awp_cond (b := (x.op == [])) rfl (fun h => ?_) (fun h => ?_)
  ·have ho := nm h
   have step2 : stepF s x = aloneF s x := by unfold stepF; rw [if_neg (by rw [hp]; decide), if_pos ho]
   refine awp_seq ?_
   refine pW ?_
   refine awp_cond rfl (fun h => ?_) (fun h => ?_)
   ·have hl : ¬ x.lab = [] := nm h
    refine pW ?_
    refine W0 ?_
    by_cases h13 : s.off < 1024
    ·refine CallK.heapK (f101 true _) [] [] rfl rfl rfl ⟨VLe.bool (decide_eq_true (show (s.off : Int) < 1024 by omega)), .same, trivial⟩ trivial 2200 rfl (fun r Hout hr => ?_) (fun r Hout hr => absurd hr.1 (by decide))
     rcases hr with ⟨_, rfl, rfl⟩
     refine W0 ?_
     refine awp_treeG tab_ok mixed [0, 1, 3] [2] ta210 (by kernel_rfl) (fun t => Nat.beq t 4) (by kernel_rfl) (fun _ _ _ _ _ _ _ h1 h2 => r65Q h1 h2) ?_
     conv => whnf
     repeat' (first | (refine W1 ?_) | exact trivial | (refine And2.mk ?_ ?_ <;> (conv => whnf)))
     all_goals
      refine CallK.heapK (f69 (asOf s) s.syms (w6 s.used) hb ho') [] [(100, 100), (101, 101), (102, 102), (103, 103)] rfl rfl rfl ⟨.pq rfl, trivial⟩ (allAsz rfl rfl rfl rfl rfl (as_keep rfl rfl rfl) (sym_keep) (wrd_keep)) 5000 rfl (fun r Hout hr => ?_) (fun r Hout hr => ?_)
      ·obtain ⟨rfl, rfl⟩ := hr
       conv => whnf
       repeat' (first | (refine W1 ?_) | exact trivial | (refine And2.mk ?_ ?_ <;> (conv => whnf)))
       refine CallK.heapK (f102' (s := s) (w := w6 s.used) (sn := x.lab) (sp := 2) (ad := (s.adr : Nat))) [] [(100, 100), (101, 101), (102, 102), (103, 103)] rfl rfl rfl ⟨.pq rfl, .same, .same, .same, trivial⟩ (allAsRz rfl rfl rfl rfl rfl (as_keepR rfl rfl rfl) (sym_keepR) (wrd_keepR)) 6000 rfl (fun r Hout hr => ?_) (fun r Hout hr => ?_)
       ·obtain ⟨l', hd, rfl, rfl⟩ := hr
        conv => whnf
        repeat' (first | (refine W1 ?_) | exact trivial | (refine And2.mk ?_ ?_ <;> (conv => whnf)))
        have step3 : stepF s x = .ok { s with syms := l' } := by rw [step2]; unfold aloneF; rw [if_neg hl, if_neg (by omega), defS_L, hd]; rfl
        refine awp_last tab_ok mixed ?_
        refine W0 ?_
        refine W0 ?_
        exact dret65 _ _ _ (SubS.mkDK [] rfl ⟨⟨_, rfl, .pq rfl⟩, trivial⟩ ⟨.inl ⟨_, _, rfl, rfl, rfl, clLe rfl rfl rfl rfl .same⟩, allAsRz rfl rfl rfl rfl rfl (as_keepR rfl rfl rfl) (sym_keepR) (wrd_keepR)⟩ (dfLe (h := getL [.ptr 4 0 1 0 0]) (.pq rfl))) (.inl ⟨_, step3, rfl, rfl⟩)
       ·obtain ⟨hd, rfl, rfl⟩ := hr
        have step3 : stepF s x = .error 8 := by rw [step2]; unfold aloneF; rw [if_neg hl, if_neg (by omega), defS_L, hd]; rfl
        conv => whnf
        repeat' (first | (refine W1 ?_) | exact trivial | (refine And2.mk ?_ ?_ <;> (conv => whnf)))
        exact dpan65 _ _ _ (SubS.mkDK [] rfl ⟨⟨_, rfl, .pq rfl⟩, trivial⟩ ⟨.inl ⟨_, _, rfl, rfl, rfl, clLe rfl rfl rfl rfl .same⟩, allAsRz rfl rfl rfl rfl rfl (as_keepR rfl rfl rfl) (sym_keepR) (wrd_keepR)⟩ (dfLe (h := getL [.ptr 4 0 1 0 0]) (.pq rfl))) (step3)
      ·exact hr.elim
    ·have step3 : stepF s x = .error 13 := by rw [step2]; unfold aloneF; rw [if_neg hl, if_pos (by omega)]
     refine CallK.heapK (f101 false _) [] [] rfl rfl rfl ⟨VLe.bool (decide_eq_false (show ¬ (s.off : Int) < 1024 by omega)), .same, trivial⟩ trivial 2200 rfl (fun r Hout hr => absurd hr.1 (by decide)) (fun r Hout hr => ?_)
     rcases hr with ⟨_, rfl, rfl⟩
     refine W0 ?_
     exact dpan65 _ _ _ (SubS.mkDK [] rfl ⟨⟨_, rfl, .pq rfl⟩, trivial⟩ ⟨.inl ⟨_, _, rfl, rfl, rfl, clLe rfl rfl rfl rfl .same⟩, allAsz rfl rfl rfl rfl rfl (as_keep rfl rfl rfl) (sym_keep) (wrd_keep)⟩ (dfLe (h := getL [.ptr 4 0 1 0 0]) (.pq rfl))) (step3)
   ·have hl : x.lab = [] := nm h
    refine awp_skip ?_
    refine awp_last tab_ok mixed ?_
    refine W0 ?_
    refine W0 ?_
    have step3 : stepF s x = .ok s := by rw [step2]; unfold aloneF; rw [if_pos hl]
    exact dret65 _ _ _ (SubS.mkDK [] rfl ⟨⟨_, rfl, .pq rfl⟩, trivial⟩ ⟨.inl ⟨_, _, rfl, rfl, rfl, clLe rfl rfl rfl rfl .same⟩, allAsz rfl rfl rfl rfl rfl (as_keep rfl rfl rfl) (sym_keep) (wrd_keep)⟩ (dfLe (h := getL [.ptr 4 0 1 0 0]) (.pq rfl))) (.inl ⟨s, step3, rfl, rfl⟩)
  ·refine awp_skip ?_
   show AWP Tryz.prog _ (R65 s x) _
   have ho : ¬ x.op = [] := nm h
   have step2 : opK x.op = 12 → stepF s x = .error 7 := fun hk => by unfold stepF; rw [if_neg (by rw [hp]; decide), if_neg ho, if_pos hk]
   refine pW ?_
   refine CallK.heapK (f68 (asOf s) s.syms (w6 s.used) x.op) [] [(100, 100), (101, 101), (102, 102), (103, 103)] rfl rfl rfl ⟨.pq rfl, .same, trivial⟩ (allAsz rfl rfl rfl rfl rfl (as_keep rfl rfl rfl) (sym_keep) (wrd_keep)) 7000 rfl (fun r Hout hr => ?_) (fun r Hout hr => ?_)
   ·obtain ⟨hk12, rfl, rfl⟩ := hr
    have hk := opK_lt hk12
    rcases Nat.lt_or_ge (opK x.op) 6 with h6 | h6
    ·have hO := opr_prep (asOf s).mark (show opK x.op ≤ 5 by omega)
     rw [hO]
     generalize hF : frmK (opK x.op) x.op = F at *
     refine W0 ?_
     refine AWP.sub (st' := f9S ⟨F, 0, some (105 + opK x.op), none, op0⟩ s x) (SubS.mkDK [] rfl ⟨⟨_, rfl, .pq rfl⟩, ⟨_, rfl, .pq rfl⟩, ⟨_, rfl, .pq rfl⟩, ⟨_, rfl, .pq rfl⟩, trivial⟩ ⟨.inl ⟨_, _, rfl, rfl, rfl, line_keep⟩, .inl ⟨_, _, rfl, rfl, rfl, clLe rfl rfl rfl rfl .same⟩, .inl ⟨_, _, rfl, rfl, rfl, oprB_le rfl rfl rfl rfl .same .same .same .same .same .same .same fn0_le .same .same .same .same .same .same .same⟩, allAsRz rfl rfl rfl rfl rfl (as_keepR rfl rfl rfl) sym_keepR wrd_keepR⟩ (dfLe (h := getL [.ptr 4 0 1 0 0]) (.pq rfl))) ?_
     unfold f9S
     have step3 : alwB F x = false → stepF s x = .error 5 := fun h => by unfold stepF; rw [if_neg (by rw [hp]; decide), if_neg ho, if_neg hk12, hF, if_pos h]
     refine pW ?_
     refine c0f (f103 _ _ _ _ _ x) ⟨oprV .same .same .same .same .same .same .same fn0_le .same .same .same .same .same .same .same, lineV .same .same .same .same .same, trivial⟩ rfl ?_
     refine W0 ?_
     cases hal : alwB F x with
     | false =>
       refine CallK.heapK (f101 false _) [] [] rfl rfl rfl ⟨.same, .same, trivial⟩ trivial 8000 rfl (fun r Hout hr => absurd hr.1 (by decide)) (fun r Hout hr => ?_)
       rcases hr with ⟨_, rfl, rfl⟩
       refine W0 ?_
       exact dpan65 _ _ _ (SubS.mkDK [] rfl ⟨⟨_, rfl, .pq rfl⟩, trivial⟩ ⟨.inl ⟨_, _, rfl, rfl, rfl, clLe rfl rfl rfl rfl .same⟩, allAsz rfl rfl rfl rfl rfl (as_keep rfl rfl rfl) (sym_keep) (wrd_keep)⟩ (dfLe (h := getL [.ptr 4 0 1 0 0]) (.pq rfl))) (step3 hal)
     | true =>
       refine CallK.heapK (f101 true _) [] [] rfl rfl rfl ⟨.same, .same, trivial⟩ trivial 8000 rfl (fun r Hout hr => ?_) (fun r Hout hr => absurd hr.1 (by decide))
       rcases hr with ⟨_, rfl, rfl⟩
       refine W0 ?_
       have step4 : x.arg.k = 1 ∧ ¬ (F.lo ≤ x.arg.v ∧ x.arg.v ≤ F.hi) → stepF s x = .error 3 := fun h => by unfold stepF; rw [if_neg (by rw [hp]; decide), if_neg ho, if_neg hk12, hF, if_neg (by rw [hal]; decide), if_pos h]
       refine awp_cut (fun _ : Unit => f9S ⟨F, 0, some (105 + opK x.op), none, op0⟩ s x) (fun _ => x.arg.k = 1 → F.lo ≤ x.arg.v ∧ x.arg.v ≤ F.hi) (fun K hK => ?_) (fun _ hrg => ?_)
       ·refine awp_last tab_ok mixed ?_
        refine W0 ?_
        refine tr (fun a1 => ?_) fun a1 => ?_
        ·refine W0 ?_
         refine tr (fun a2 => ?_) fun a2 => ?_
         ·refine W0 ?_
          by_cases a3 : x.arg.v ≤ F.hi
          ·refine CallK.heapK (f101 true _) [] [] rfl rfl rfl ⟨VLe.bool (decide_eq_true a3), .same, trivial⟩ trivial 8200 rfl (fun r Hout hr => ?_) (fun r Hout hr => absurd hr.1 (by decide))
           rcases hr with ⟨_, rfl, rfl⟩
           refine W0 ?_
           exact hK _ () (fun _ => ⟨a2, a3⟩) (SubS.mkDK [] rfl ⟨⟨_, rfl, .pq rfl⟩, ⟨_, rfl, .pq rfl⟩, ⟨_, rfl, .pq rfl⟩, ⟨_, rfl, .pq rfl⟩, trivial⟩ ⟨.inl ⟨_, _, rfl, rfl, rfl, line_keep⟩, .inl ⟨_, _, rfl, rfl, rfl, clLe rfl rfl rfl rfl .same⟩, .inl ⟨_, _, rfl, rfl, rfl, oprB_le rfl rfl rfl rfl .same .same .same .same .same .same .same fn0_le .same .same .same .same .same .same .same⟩, allAsz rfl rfl rfl rfl rfl (as_keep rfl rfl rfl) sym_keep wrd_keep⟩ (dfLe (h := getL [.ptr 4 0 1 0 0]) (.pq rfl)))
          ·refine CallK.heapK (f101 false _) [] [] rfl rfl rfl ⟨VLe.bool (decide_eq_false a3), .same, trivial⟩ trivial 8200 rfl (fun r Hout hr => absurd hr.1 (by decide)) (fun r Hout hr => ?_)
           rcases hr with ⟨_, rfl, rfl⟩
           refine W0 ?_
           exact dpan65 _ _ _ (SubS.mkDK [] rfl ⟨⟨_, rfl, .pq rfl⟩, trivial⟩ ⟨.inl ⟨_, _, rfl, rfl, rfl, clLe rfl rfl rfl rfl .same⟩, allAsz rfl rfl rfl rfl rfl (as_keep rfl rfl rfl) (sym_keep) (wrd_keep)⟩ (dfLe (h := getL [.ptr 4 0 1 0 0]) (.pq rfl))) (step4 ⟨a1, fun h => a3 h.2⟩)
         ·refine W0 ?_
          refine CallK.heapK (f101 false _) [] [] rfl rfl rfl ⟨.same, .same, trivial⟩ trivial 8200 rfl (fun r Hout hr => absurd hr.1 (by decide)) (fun r Hout hr => ?_)
          rcases hr with ⟨_, rfl, rfl⟩
          refine W0 ?_
          exact dpan65 _ _ _ (SubS.mkDK [] rfl ⟨⟨_, rfl, .pq rfl⟩, trivial⟩ ⟨.inl ⟨_, _, rfl, rfl, rfl, clLe rfl rfl rfl rfl .same⟩, allAsz rfl rfl rfl rfl rfl (as_keep rfl rfl rfl) (sym_keep) (wrd_keep)⟩ (dfLe (h := getL [.ptr 4 0 1 0 0]) (.pq rfl))) (step4 ⟨a1, fun h => absurd h.1 (Int.not_le.mpr a2)⟩)
        ·refine W0 ?_
         refine CallK.heapK (f101 true _) [] [] rfl rfl rfl ⟨.same, .same, trivial⟩ trivial 8200 rfl (fun r Hout hr => ?_) (fun r Hout hr => absurd hr.1 (by decide))
         rcases hr with ⟨_, rfl, rfl⟩
         refine W0 ?_
         exact hK _ () (fun h => absurd h a1) (SubS.mkDK [] rfl ⟨⟨_, rfl, .pq rfl⟩, ⟨_, rfl, .pq rfl⟩, ⟨_, rfl, .pq rfl⟩, ⟨_, rfl, .pq rfl⟩, trivial⟩ ⟨.inl ⟨_, _, rfl, rfl, rfl, line_keep⟩, .inl ⟨_, _, rfl, rfl, rfl, clLe rfl rfl rfl rfl .same⟩, .inl ⟨_, _, rfl, rfl, rfl, oprB_le rfl rfl rfl rfl .same .same .same .same .same .same .same fn0_le .same .same .same .same .same .same .same⟩, allAsz rfl rfl rfl rfl rfl (as_keep rfl rfl rfl) sym_keep wrd_keep⟩ (dfLe (h := getL [.ptr 4 0 1 0 0]) (.pq rfl)))
       have hadm : Adm x := ⟨hp, ho, hk12, by rw [hF]; exact hal, by rw [hF]; exact hrg⟩
       have step5 := step_adm (s := s) hadm
       unfold f9S
       have hP := prep s (w6 s.used) x hw hadm (show opK x.op ≤ 5 by omega)
       refine pW ?_
       refine CallK.heapK (hP) [] [(100, 100), (101, 101), (102, 102), (103, 103)] rfl rfl rfl ⟨.pq rfl, lineV .same .same .same .same .same, trivial⟩ (allAsz rfl rfl rfl rfl rfl (as_keep rfl rfl rfl) (sym_keep) (wrd_keep)) 9000 rfl (fun r Hout hr => ?_) (fun r Hout hr => ?_)
       ·obtain ⟨s1, hd, rfl, rfl⟩ := hr
        refine W0 ?_
        refine W0 ?_
        exact dret65 _ _ _ (SubS.mkDK [] rfl ⟨⟨_, rfl, .pq rfl⟩, trivial⟩ ⟨.inl ⟨_, _, rfl, rfl, rfl, clLe rfl rfl rfl rfl .same⟩, allAsRz rfl rfl rfl rfl rfl (as_keepR rfl rfl rfl) (sym_keepR) (wrd_keepR)⟩ (dfLe (h := getL [.ptr 4 0 1 0 0]) (.pq rfl))) (.inl ⟨s1, step5.trans hd, rfl, by rw [doF_used (show opK x.op ≤ 5 by omega) hd]⟩)
       ·obtain ⟨e, hd, rfl, a', l', w', rfl⟩ := hr
        refine W0 ?_
        exact dpan65 _ _ _ (SubS.mkDK [] rfl ⟨⟨_, rfl, .pq rfl⟩, trivial⟩ ⟨.inl ⟨_, _, rfl, rfl, rfl, clLe rfl rfl rfl rfl .same⟩, allAsRz rfl rfl rfl rfl rfl (as_keepR rfl rfl rfl) (sym_keepR) (wrd_keepR)⟩ (dfLe (h := getL [.ptr 4 0 1 0 0]) (.pq rfl))) (step5.trans hd)
    ·obtain ⟨op, hO, hop⟩ := opr_word (asOf s).mark h6 hk
     rw [hO]
     generalize hF : frmK (opK x.op) x.op = F at *
     refine W0 ?_
     refine AWP.sub (st' := f9S ⟨F, (cntK (opK x.op) x.op (asOf s).mark : Nat), none, some (wdN (opK x.op)), op⟩ s x) (SubS.mkDK [] rfl ⟨⟨_, rfl, .pq rfl⟩, ⟨_, rfl, .pq rfl⟩, ⟨_, rfl, .pq rfl⟩, ⟨_, rfl, .pq rfl⟩, trivial⟩ ⟨.inl ⟨_, _, rfl, rfl, rfl, line_keep⟩, .inl ⟨_, _, rfl, rfl, rfl, clLe rfl rfl rfl rfl .same⟩, .inl ⟨_, _, rfl, rfl, rfl, oprB_le rfl rfl rfl rfl .same .same .same .same .same .same .same .same fn0_le .same .same .same .same .same .same⟩, allAsRz rfl rfl rfl rfl rfl (as_keepR rfl rfl rfl) sym_keepR wrd_keepR⟩ (dfLe (h := getL [.ptr 4 0 1 0 0]) (.pq rfl))) ?_
     unfold f9S
     have step3 : alwB F x = false → stepF s x = .error 5 := fun h => by unfold stepF; rw [if_neg (by rw [hp]; decide), if_neg ho, if_neg hk12, hF, if_pos h]
     refine pW ?_
     refine c0f (f103 _ _ _ _ _ x) ⟨oprV .same .same .same .same .same .same .same .same fn0_le .same .same .same .same .same .same, lineV .same .same .same .same .same, trivial⟩ rfl ?_
     refine W0 ?_
     cases hal : alwB F x with
     | false =>
       refine CallK.heapK (f101 false _) [] [] rfl rfl rfl ⟨.same, .same, trivial⟩ trivial 8000 rfl (fun r Hout hr => absurd hr.1 (by decide)) (fun r Hout hr => ?_)
       rcases hr with ⟨_, rfl, rfl⟩
       refine W0 ?_
       exact dpan65 _ _ _ (SubS.mkDK [] rfl ⟨⟨_, rfl, .pq rfl⟩, trivial⟩ ⟨.inl ⟨_, _, rfl, rfl, rfl, clLe rfl rfl rfl rfl .same⟩, allAsz rfl rfl rfl rfl rfl (as_keep rfl rfl rfl) (sym_keep) (wrd_keep)⟩ (dfLe (h := getL [.ptr 4 0 1 0 0]) (.pq rfl))) (step3 hal)
     | true =>
       refine CallK.heapK (f101 true _) [] [] rfl rfl rfl ⟨.same, .same, trivial⟩ trivial 8000 rfl (fun r Hout hr => ?_) (fun r Hout hr => absurd hr.1 (by decide))
       rcases hr with ⟨_, rfl, rfl⟩
       refine W0 ?_
       have step4 : x.arg.k = 1 ∧ ¬ (F.lo ≤ x.arg.v ∧ x.arg.v ≤ F.hi) → stepF s x = .error 3 := fun h => by unfold stepF; rw [if_neg (by rw [hp]; decide), if_neg ho, if_neg hk12, hF, if_neg (by rw [hal]; decide), if_pos h]
       refine awp_cut (fun _ : Unit => f9S ⟨F, (cntK (opK x.op) x.op (asOf s).mark : Nat), none, some (wdN (opK x.op)), op⟩ s x) (fun _ => x.arg.k = 1 → F.lo ≤ x.arg.v ∧ x.arg.v ≤ F.hi) (fun K hK => ?_) (fun _ hrg => ?_)
       ·refine awp_last tab_ok mixed ?_
        refine W0 ?_
        refine tr (fun a1 => ?_) fun a1 => ?_
        ·refine W0 ?_
         refine tr (fun a2 => ?_) fun a2 => ?_
         ·refine W0 ?_
          by_cases a3 : x.arg.v ≤ F.hi
          ·refine CallK.heapK (f101 true _) [] [] rfl rfl rfl ⟨VLe.bool (decide_eq_true a3), .same, trivial⟩ trivial 8200 rfl (fun r Hout hr => ?_) (fun r Hout hr => absurd hr.1 (by decide))
           rcases hr with ⟨_, rfl, rfl⟩
           refine W0 ?_
           exact hK _ () (fun _ => ⟨a2, a3⟩) (SubS.mkDK [] rfl ⟨⟨_, rfl, .pq rfl⟩, ⟨_, rfl, .pq rfl⟩, ⟨_, rfl, .pq rfl⟩, ⟨_, rfl, .pq rfl⟩, trivial⟩ ⟨.inl ⟨_, _, rfl, rfl, rfl, line_keep⟩, .inl ⟨_, _, rfl, rfl, rfl, clLe rfl rfl rfl rfl .same⟩, .inl ⟨_, _, rfl, rfl, rfl, oprB_le rfl rfl rfl rfl .same .same .same .same .same .same .same .same fn0_le .same .same .same .same .same .same⟩, allAsz rfl rfl rfl rfl rfl (as_keep rfl rfl rfl) sym_keep wrd_keep⟩ (dfLe (h := getL [.ptr 4 0 1 0 0]) (.pq rfl)))
          ·refine CallK.heapK (f101 false _) [] [] rfl rfl rfl ⟨VLe.bool (decide_eq_false a3), .same, trivial⟩ trivial 8200 rfl (fun r Hout hr => absurd hr.1 (by decide)) (fun r Hout hr => ?_)
           rcases hr with ⟨_, rfl, rfl⟩
           refine W0 ?_
           exact dpan65 _ _ _ (SubS.mkDK [] rfl ⟨⟨_, rfl, .pq rfl⟩, trivial⟩ ⟨.inl ⟨_, _, rfl, rfl, rfl, clLe rfl rfl rfl rfl .same⟩, allAsz rfl rfl rfl rfl rfl (as_keep rfl rfl rfl) (sym_keep) (wrd_keep)⟩ (dfLe (h := getL [.ptr 4 0 1 0 0]) (.pq rfl))) (step4 ⟨a1, fun h => a3 h.2⟩)
         ·refine W0 ?_
          refine CallK.heapK (f101 false _) [] [] rfl rfl rfl ⟨.same, .same, trivial⟩ trivial 8200 rfl (fun r Hout hr => absurd hr.1 (by decide)) (fun r Hout hr => ?_)
          rcases hr with ⟨_, rfl, rfl⟩
          refine W0 ?_
          exact dpan65 _ _ _ (SubS.mkDK [] rfl ⟨⟨_, rfl, .pq rfl⟩, trivial⟩ ⟨.inl ⟨_, _, rfl, rfl, rfl, clLe rfl rfl rfl rfl .same⟩, allAsz rfl rfl rfl rfl rfl (as_keep rfl rfl rfl) (sym_keep) (wrd_keep)⟩ (dfLe (h := getL [.ptr 4 0 1 0 0]) (.pq rfl))) (step4 ⟨a1, fun h => absurd h.1 (Int.not_le.mpr a2)⟩)
        ·refine W0 ?_
         refine CallK.heapK (f101 true _) [] [] rfl rfl rfl ⟨.same, .same, trivial⟩ trivial 8200 rfl (fun r Hout hr => ?_) (fun r Hout hr => absurd hr.1 (by decide))
         rcases hr with ⟨_, rfl, rfl⟩
         refine W0 ?_
         exact hK _ () (fun h => absurd h a1) (SubS.mkDK [] rfl ⟨⟨_, rfl, .pq rfl⟩, ⟨_, rfl, .pq rfl⟩, ⟨_, rfl, .pq rfl⟩, ⟨_, rfl, .pq rfl⟩, trivial⟩ ⟨.inl ⟨_, _, rfl, rfl, rfl, line_keep⟩, .inl ⟨_, _, rfl, rfl, rfl, clLe rfl rfl rfl rfl .same⟩, .inl ⟨_, _, rfl, rfl, rfl, oprB_le rfl rfl rfl rfl .same .same .same .same .same .same .same .same fn0_le .same .same .same .same .same .same⟩, allAsz rfl rfl rfl rfl rfl (as_keep rfl rfl rfl) sym_keep wrd_keep⟩ (dfLe (h := getL [.ptr 4 0 1 0 0]) (.pq rfl)))
       have hadm : Adm x := ⟨hp, ho, hk12, by rw [hF]; exact hal, by rw [hF]; exact hrg⟩
       have step5 := step_adm (s := s) hadm
       unfold f9S
       have hm : (asOf s).mark = s.mark := rfl
       rw [hm]
       have hn : cntK (opK x.op) x.op s.mark = 1 ∨ cntK (opK x.op) x.op s.mark = 2 := cnt_pos h6
       have step6 : stepF s x = place s x (cntK (opK x.op) x.op s.mark) := by
        rw [step5, doF_k]
        generalize opK x.op = k at *
        match k, h6 with
        | k + 6, _ => rfl
       generalize cntK (opK x.op) x.op s.mark = n at *
       refine pW ?_
       refine awp_seq ?_
       refine awp_treeG tab_ok mixed [0, 1, 2, 4, 6, 7] [3, 5] (.alt 0 (.alt 1 (.alt 2 (.alt 4 (.br 3 (.alt 5 (.alt 6 (.alt 7 (.alt 8 .done)))) (.skip (.alt 5 .dead))))))) (by kernel_rfl) (fun t => Nat.beq t 4) (by kernel_rfl) (fun _ _ _ _ _ _ _ h1 h2 => r65Q h1 h2) ?_
       conv => whnf
       repeat' (first | (refine W1 ?_) | exact trivial | (refine And2.mk ?_ ?_ <;> (conv => whnf)))
       have hoff := hw.off
       have hbank := hw.bank
       refine ⟨⟨by show inI64 ((s.off : Int) + n); unfold inI64; omega⟩, ?_⟩
       refine W0 ?_
       conv => whnf
       repeat' (first | (refine W1 ?_) | exact trivial | (refine And2.mk ?_ ?_ <;> (conv => whnf)))
       by_cases h13 : s.off + n ≤ 1024
       ·refine CallK.heapK (f101 true _) [] [] rfl rfl rfl ⟨VLe.bool (decide_eq_true (show (s.off : Int) + n ≤ 1024 by omega)), .same, trivial⟩ trivial 8400 rfl (fun r Hout hr => ?_) (fun r Hout hr => absurd hr.1 (by decide))
        rcases hr with ⟨_, rfl, rfl⟩
        refine W0 ?_
        conv => whnf
        repeat' (first | (refine W1 ?_) | exact trivial | (refine And2.mk ?_ ?_ <;> (conv => whnf)))
        refine awp_cut (fun sy : List Sym => f16S (plO F n (wdN (opK x.op)) op) s sy x) (fun sy => defL s.syms x.lab 2 (s.adr : Nat) = some sy) (fun K hK => ?_) (fun sy hsy => ?_)
        ·refine awp_treeG tab_ok mixed [0, 1, 3] [2] ta210 (by kernel_rfl) (fun t => Nat.beq t 4) (by kernel_rfl) (fun _ _ _ _ _ _ _ h1 h2 => r65Q h1 h2) ?_
         conv => whnf
         repeat' (first | (refine W1 ?_) | exact trivial | (refine And2.mk ?_ ?_ <;> (conv => whnf)))
         all_goals
          refine CallK.heapK (f69 (asOf s) s.syms (w6 s.used) hb ho') [] [(100, 100), (101, 101), (102, 102), (103, 103)] rfl rfl rfl ⟨.pq rfl, trivial⟩ (allAsz rfl rfl rfl rfl rfl (as_keep rfl rfl rfl) (sym_keep) (wrd_keep)) 8500 rfl (fun r Hout hr => ?_) (fun r Hout hr => ?_)
          ·obtain ⟨rfl, rfl⟩ := hr
           conv => whnf
           repeat' (first | (refine W1 ?_) | exact trivial | (refine And2.mk ?_ ?_ <;> (conv => whnf)))
           refine CallK.heapK (f102' (s := s) (w := w6 s.used) (sn := x.lab) (sp := 2) (ad := (s.adr : Nat))) [] [(100, 100), (101, 101), (102, 102), (103, 103)] rfl rfl rfl ⟨.pq rfl, .same, .same, .same, trivial⟩ (allAsRz rfl rfl rfl rfl rfl (as_keepR rfl rfl rfl) (sym_keepR) (wrd_keepR)) 9600 rfl (fun r Hout hr => ?_) (fun r Hout hr => ?_)
           ·obtain ⟨l', hd, rfl, rfl⟩ := hr
            conv => whnf
            repeat' (first | (refine W1 ?_) | exact trivial | (refine And2.mk ?_ ?_ <;> (conv => whnf)))
            exact hK _ l' hd (SubS.mkDK [] rfl ⟨⟨_, rfl, .pq rfl⟩, ⟨_, rfl, .pq rfl⟩, ⟨_, rfl, .pq rfl⟩, ⟨_, rfl, .pq rfl⟩, trivial⟩ ⟨.inl ⟨_, _, rfl, rfl, rfl, line_keep⟩, .inl ⟨_, _, rfl, rfl, rfl, clLe rfl rfl rfl rfl .same⟩, .inl ⟨_, _, rfl, rfl, rfl, oprB_le rfl rfl rfl rfl .same .same .same .same .same .same .same .same fn0_le .same .same .same .same .same .same⟩, allAsRz rfl rfl rfl rfl rfl (as_keepR rfl rfl rfl) sym_keepR wrd_keepR⟩ (dfLe (h := getL [.ptr 4 0 1 0 0]) (.pq rfl)))
           ·obtain ⟨hd, rfl, rfl⟩ := hr
            conv => whnf
            repeat' (first | (refine W1 ?_) | exact trivial | (refine And2.mk ?_ ?_ <;> (conv => whnf)))
            exact dpan65 _ _ _ (SubS.mkDK [] rfl ⟨⟨_, rfl, .pq rfl⟩, trivial⟩ ⟨.inl ⟨_, _, rfl, rfl, rfl, clLe rfl rfl rfl rfl .same⟩, allAsRz rfl rfl rfl rfl rfl (as_keepR rfl rfl rfl) (sym_keepR) (wrd_keepR)⟩ (dfLe (h := getL [.ptr 4 0 1 0 0]) (.pq rfl))) (step6.trans (place_dup (by omega) hd))
          ·exact hr.elim
        unfold f16S plO
        refine pW ?_
        refine awp_loopI (fun i : Nat => i ≤ n ∧ ∀ j, j < i → s.adr + j ∉ s.used) (fun i => rndS (plO F n (wdN (opK x.op)) op) s sy x n i) (fun i => n - i) 0 ⟨Nat.zero_le _, fun j hj => absurd hj (Nat.not_lt_zero j)⟩ (SubS.mkDK [] rfl ⟨⟨_, rfl, .pq rfl⟩, ⟨_, rfl, .pq rfl⟩, ⟨_, rfl, .pq rfl⟩, ⟨_, rfl, .pq rfl⟩, ⟨_, rfl, .same⟩, ⟨_, rfl, .same⟩, trivial⟩ ⟨.inl ⟨_, _, rfl, rfl, rfl, line_keep⟩, .inl ⟨_, _, rfl, rfl, rfl, clLe rfl rfl rfl rfl .same⟩, .inl ⟨_, _, rfl, rfl, rfl, oprB_le rfl rfl rfl rfl .same .same .same .same .same .same .same .same fn0_le .same .same .same .same .same .same⟩, allAsz rfl rfl rfl rfl rfl (as_keep rfl rfl rfl) sym_keep (by show ObLe _ _ _ _ (wrdO (w6 (s.used ++ newA s 0))); rw [show newA s 0 = [] from rfl, List.append_nil]; exact wrd_keep)⟩ (dfLe (h := getL [.ptr 4 0 1 0 0]) (.pq rfl))) ?_
        rintro i ⟨hi, hnu⟩
        unfold rndS plO
        refine pW ?_
        refine awp_seq ?_
        refine awp_cond rfl (fun h => ?_) (fun h => ?_)
        ·have hin : i < n := by have h := nm h; omega
         refine awp_skip ?_
         refine awp_seq ?_
         refine awp_block ?_
         refine pW ?_
         refine awp_cut (fun b : Bool => mkStX 123 [(0, .ptr 100 0 44 0 0), (3, .ptr 3 0 5 0 0), (4, .ptr 4 0 1 0 0), (7, .ptr 7 0 15 0 0), (91, i64 n), (92, i64 i), (8, i64 i), (10, bb b)] ((3, lineO x) :: (4, clO 28 (i64 0)) :: (7, oprB (plO F n (wdN (opK x.op)) op)) :: asH (asOf s) sy (w6 (s.used ++ newA s i))) (XDK (dfF 99) kpA)) (fun b => b = true ↔ s.adr + i ∈ s.used) (fun K hK => ?_) (fun b hbu => ?_)
         ·refine awp_treeG tab_ok mixed [0, 1, 2, 4, 6, 7, 9, 10, 11, 12, 13] [3] (.alt 0 (.alt 1 (.alt 2 (.alt 4 (.alt 6 (.br 3 (.alt 5 (.alt 7 (.alt 8 (.alt 9 (.alt 10 (.alt 11 (.alt 12 (.alt 13 .done)))))))) (.alt 5 (.alt 7 (.alt 3 (.alt 8 (.alt 9 (.alt 10 (.alt 11 (.alt 12 (.alt 13 .done))))))))))))))) (by kernel_rfl) (fun t => Nat.beq t 4) (by kernel_rfl) (fun _ _ _ _ _ _ _ h1 h2 => r65Q h1 h2) ?_
          conv => whnf
          repeat' (first | (refine W1 ?_) | exact trivial | (refine And2.mk ?_ ?_ <;> (conv => whnf)))
          all_goals
           refine CallK.heapK (f69 (asOf s) sy (w6 (s.used ++ newA s i)) hb ho') [] [(100, 100), (101, 101), (102, 102), (103, 103)] rfl rfl rfl ⟨.pq rfl, trivial⟩ (allAsz rfl rfl rfl rfl rfl (as_keep rfl rfl rfl) (sym_keep) (wrd_keep)) 10000 rfl (fun r Hout hr => ?_) (fun r Hout hr => ?_)
           ·obtain ⟨rfl, rfl⟩ := hr
            conv => whnf
            repeat' (first | (refine W1 ?_) | exact trivial | (refine And2.mk ?_ ?_ <;> (conv => whnf)))
            refine ⟨⟨by show inI64 (1024 * (s.bank : Int) + s.off + i); unfold inI64; omega⟩, ?_⟩
            refine W0 ?_
            conv => whnf
            repeat' (first | (refine W1 ?_) | exact trivial | (refine And2.mk ?_ ?_ <;> (conv => whnf)))
            refine ⟨fun k hk he => ?_, fun hno => ?_⟩
            ·have hu : s.adr + i ∈ s.used := used_mem.mp (wrd_at6 (i := k) hk ((ren_at.symm.trans he).trans (congrArg i64 (by show 1024 * (s.bank : Int) + s.off + i = ((1024 * s.bank + s.off + i : Nat) : Int); omega))))
             conv => whnf
             repeat' (first | (refine W1 ?_) | exact trivial | (refine And2.mk ?_ ?_ <;> (conv => whnf)))
             exact hK _ true ⟨fun _ => hu, fun _ => rfl⟩ (SubS.mkDK [] rfl ⟨⟨_, rfl, .pq rfl⟩, ⟨_, rfl, .pq rfl⟩, ⟨_, rfl, .pq rfl⟩, ⟨_, rfl, .pq rfl⟩, ⟨_, rfl, .same⟩, ⟨_, rfl, .same⟩, ⟨_, rfl, .same⟩, ⟨_, rfl, .same⟩, trivial⟩ ⟨.inl ⟨_, _, rfl, rfl, rfl, line_keep⟩, .inl ⟨_, _, rfl, rfl, rfl, clLe rfl rfl rfl rfl .same⟩, .inl ⟨_, _, rfl, rfl, rfl, oprB_le rfl rfl rfl rfl .same .same .same .same .same .same .same .same fn0_le .same .same .same .same .same .same⟩, allAsRz rfl rfl rfl rfl rfl (as_keepR rfl rfl rfl) sym_keepR wrd_keepR⟩ (dfLe (h := getL [.ptr 4 0 1 0 0]) (.pq rfl)))
            ·have hu : ¬ s.adr + i ∈ s.used := fun hu => by
              obtain ⟨k, h1, h2⟩ := wrd_of6 (used_mem.mpr hu)
              exact hno k h1 (ren_at.trans (h2.trans (congrArg i64 (by show ((1024 * s.bank + s.off + i : Nat) : Int) = 1024 * (s.bank : Int) + s.off + i; omega))))
             conv => whnf
             repeat' (first | (refine W1 ?_) | exact trivial | (refine And2.mk ?_ ?_ <;> (conv => whnf)))
             exact hK _ false ⟨fun h => absurd h (by decide), fun h => absurd h hu⟩ (SubS.mkDK [] rfl ⟨⟨_, rfl, .pq rfl⟩, ⟨_, rfl, .pq rfl⟩, ⟨_, rfl, .pq rfl⟩, ⟨_, rfl, .pq rfl⟩, ⟨_, rfl, .same⟩, ⟨_, rfl, .same⟩, ⟨_, rfl, .same⟩, ⟨_, rfl, .same⟩, trivial⟩ ⟨.inl ⟨_, _, rfl, rfl, rfl, line_keep⟩, .inl ⟨_, _, rfl, rfl, rfl, clLe rfl rfl rfl rfl .same⟩, .inl ⟨_, _, rfl, rfl, rfl, oprB_le rfl rfl rfl rfl .same .same .same .same .same .same .same .same fn0_le .same .same .same .same .same .same⟩, allAsRz rfl rfl rfl rfl rfl (as_keepR rfl rfl rfl) sym_keepR wrd_keepR⟩ (dfLe (h := getL [.ptr 4 0 1 0 0]) (.pq rfl)))
           ·exact hr.elim
         cases b with
         | true =>
           have hu := hbu.mp rfl
           refine pW ?_
           refine CallK.heapK (f101 false _) [] [] rfl rfl rfl ⟨.same, .same, trivial⟩ trivial 11000 rfl (fun r Hout hr => absurd hr.1 (by decide)) (fun r Hout hr => ?_)
           rcases hr with ⟨_, rfl, rfl⟩
           refine W0 ?_
           exact dpan65 _ _ _ (SubS.mkDK [] rfl ⟨⟨_, rfl, .pq rfl⟩, trivial⟩ ⟨.inl ⟨_, _, rfl, rfl, rfl, clLe rfl rfl rfl rfl .same⟩, allAsz rfl rfl rfl rfl rfl (as_keep rfl rfl rfl) (sym_keep) (wrd_keep)⟩ (dfLe (h := getL [.ptr 4 0 1 0 0]) (.pq rfl))) (step6.trans (place_used (by omega) hsy hin hu))
         | false =>
           have hu : ¬ s.adr + i ∈ s.used := fun h => absurd (hbu.mpr h) (by decide)
           refine pW ?_
           refine CallK.heapK (f101 true _) [] [] rfl rfl rfl ⟨.same, .same, trivial⟩ trivial 11000 rfl (fun r Hout hr => ?_) (fun r Hout hr => absurd hr.1 (by decide))
           rcases hr with ⟨_, rfl, rfl⟩
           refine W0 ?_
           refine awp_treeG tab_ok mixed [0, 1, 2, 4, 6, 7] [3] (.alt 0 (.alt 1 (.alt 2 (.alt 4 (.alt 6 (.br 3 (.alt 5 (.alt 7 (.alt 8 .done))) (.alt 5 (.alt 7 (.alt 3 (.alt 8 .done)))))))))) (by kernel_rfl) (fun t => Nat.beq t 4) (by kernel_rfl) (fun _ _ _ _ _ _ _ h1 h2 => r65Q h1 h2) ?_
           conv => whnf
           repeat' (first | (refine W1 ?_) | exact trivial | (refine And2.mk ?_ ?_ <;> (conv => whnf)))
           all_goals
            refine CallK.heapK (f69 (asOf s) sy (w6 (s.used ++ newA s i)) hb ho') [] [(100, 100), (101, 101), (102, 102), (103, 103)] rfl rfl rfl ⟨.pq rfl, trivial⟩ (allAsz rfl rfl rfl rfl rfl (as_keep rfl rfl rfl) (sym_keep) (wrd_keep)) 12000 rfl (fun r Hout hr => ?_) (fun r Hout hr => ?_)
            ·obtain ⟨rfl, rfl⟩ := hr
             conv => whnf
             repeat' (first | (refine W1 ?_) | exact trivial | (refine And2.mk ?_ ?_ <;> (conv => whnf)))
             refine ⟨⟨by show inI64 (1024 * (s.bank : Int) + s.off + i); unfold inI64; omega⟩, ?_⟩
             refine W0 ?_
             conv => whnf
             repeat' (first | (refine W1 ?_) | exact trivial | (refine And2.mk ?_ ?_ <;> (conv => whnf)))
             refine ⟨fun k hk he => ?_, fun hno => ?_⟩
             ·exact absurd (used_mem.mp (wrd_at6 (i := k) hk ((ren_at.symm.trans he).trans (congrArg i64 (by show 1024 * (s.bank : Int) + s.off + i = ((1024 * s.bank + s.off + i : Nat) : Int); omega))))) hu
             ·clear hno
              conv => whnf
              repeat' (first | (refine W1 ?_) | exact trivial | (refine And2.mk ?_ ?_ <;> (conv => whnf)))
              refine awp_last tab_ok mixed ?_
              refine W0 ?_
              refine ⟨⟨by show inI64 ((i : Int) + 1); unfold inI64; omega⟩, ?_⟩
              refine W0 ?_
              refine W0 ?_
              exact ⟨i + 1, ⟨hin, fun j hj => by rcases Nat.lt_or_ge j i with h | h; exact hnu j h; exact (show j = i by omega) ▸ hu⟩, (SubS.mkDK [] rfl ⟨⟨_, rfl, .pq rfl⟩, ⟨_, rfl, .pq rfl⟩, ⟨_, rfl, .pq rfl⟩, ⟨_, rfl, .pq rfl⟩, ⟨_, rfl, .same⟩, ⟨_, rfl, VLe.int (by omega)⟩, trivial⟩ ⟨.inl ⟨_, _, rfl, rfl, rfl, line_keep⟩, .inl ⟨_, _, rfl, rfl, rfl, clLe rfl rfl rfl rfl .same⟩, .inl ⟨_, _, rfl, rfl, rfl, oprB_le rfl rfl rfl rfl .same .same .same .same .same .same .same .same fn0_le .same .same .same .same .same .same⟩, allAsRz rfl rfl rfl rfl rfl (as_keepR rfl rfl rfl) sym_keepR (wrd_next (congrArg i64 (by show 1024 * (s.bank : Int) + s.off + i = ((1024 * s.bank + s.off + i : Nat) : Int); omega)) .same)⟩ (dfLe (h := getL [.ptr 4 0 1 0 0]) (.pq rfl))), by omega⟩
            ·exact hr.elim
        ·have hin : i = n := by have h := nm h; omega
         subst hin
         refine awp_exit ?_
         show AWP Tryz.prog _ (R65 s x) _
         refine pW ?_
         refine CallK.heapK (f70 (asOf s) sy (w6 (s.used ++ newA s i)) F (i : Nat) (wdN (opK x.op)) op x ⟨Int.natCast_nonneg _, by show (s.bank : Int) ≤ 35; omega⟩ ⟨Int.natCast_nonneg _, by show (s.off : Int) ≤ 1024; omega⟩ (by omega)) [] [(100, 100), (101, 101), (102, 102), (103, 103)] rfl rfl rfl ⟨.pq rfl, oprV .same .same .same .same .same .same .same .same fn0_le .same .same .same .same .same .same, lineV .same .same .same .same .same, trivial⟩ (allAsz rfl rfl rfl rfl rfl (as_keep rfl rfl rfl) (sym_keep) (wrd_keep)) 13000 rfl (fun r Hout hr => ?_) (fun r Hout hr => ?_)
         ·obtain ⟨rfl, rfl⟩ := hr
          rw [as_adv s sy i _ hn h13]
          refine W0 ?_
          refine awp_last tab_ok mixed ?_
          refine W0 ?_
          refine W0 ?_
          exact dret65 _ _ _ (SubS.mkDK [] rfl ⟨⟨_, rfl, .pq rfl⟩, trivial⟩ ⟨.inl ⟨_, _, rfl, rfl, rfl, clLe rfl rfl rfl rfl .same⟩, allAsRz rfl rfl rfl rfl rfl (as_keepR rfl rfl rfl) (sym_keepR) (wrd_keepR)⟩ (dfLe (h := getL [.ptr 4 0 1 0 0]) (.pq rfl))) (.inl ⟨_, step6.trans (place_done (by omega) hsy hnu), rfl, rfl⟩)
         ·exact hr.elim
       ·refine CallK.heapK (f101 false _) [] [] rfl rfl rfl ⟨VLe.bool (decide_eq_false (show ¬ (s.off : Int) + n ≤ 1024 by omega)), .same, trivial⟩ trivial 8400 rfl (fun r Hout hr => absurd hr.1 (by decide)) (fun r Hout hr => ?_)
        rcases hr with ⟨_, rfl, rfl⟩
        refine W0 ?_
        exact dpan65 _ _ _ (SubS.mkDK [] rfl ⟨⟨_, rfl, .pq rfl⟩, trivial⟩ ⟨.inl ⟨_, _, rfl, rfl, rfl, clLe rfl rfl rfl rfl .same⟩, allAsz rfl rfl rfl rfl rfl (as_keep rfl rfl rfl) (sym_keep) (wrd_keep)⟩ (dfLe (h := getL [.ptr 4 0 1 0 0]) (.pq rfl))) (step6.trans (place_full (by omega)))
   ·obtain ⟨hk, rfl, rfl⟩ := hr
    refine W0 ?_
    exact dpan65 _ _ _ (SubS.mkDK [] rfl ⟨⟨_, rfl, .pq rfl⟩, trivial⟩ ⟨.inl ⟨_, _, rfl, rfl, rfl, clLe rfl rfl rfl rfl .same⟩, allAsRz rfl rfl rfl rfl rfl (as_keepR rfl rfl rfl) (sym_keepR) (wrd_keepR)⟩ (dfLe (h := getL [.ptr 4 0 1 0 0]) (.pq rfl))) (step2 hk)
 ·refine pW ?_
  refine CallK.heapK (f101 false _) [] [] rfl rfl rfl ⟨VLe.bool (beq_eq_false_iff_ne.mpr hp), .same, trivial⟩ trivial 2000 rfl (fun r Hout hr => absurd hr.1 (by decide)) (fun r Hout hr => ?_)
  rcases hr with ⟨_, rfl, rfl⟩
  refine W0 ?_
  exact dpan65 _ _ _ (SubS.mkDK [] rfl ⟨⟨_, rfl, .pq rfl⟩, trivial⟩ ⟨.inl ⟨_, _, rfl, rfl, rfl, clLe rfl rfl rfl rfl .same⟩, allAsz rfl rfl rfl rfl rfl (as_keep rfl rfl rfl) (sym_keep) (wrd_keep)⟩ (dfLe (h := getL [.ptr 4 0 1 0 0]) (.pq rfl))) (step1 hp)
end Go.Proofs.YtkeecnoafjhhdaaGreatDoor
namespace Go.Proofs.YtkeecnoafjhhdaaGreatDoor
open Go Go.AM
attribute [local irreducible] AWP CallK PureCall SubS HeapCallK
def as2 (s : St) (e : Int) : AsS := { asOf s with er := e }
theorem def_as {s s1 : St} {sn : List UInt8} {sp : Nat} {ad : Int} (h : defS s sn sp ad = some s1) (e : Int) : as2 s1 e = as2 s e := by
 rw [defS_L] at h
 cases hl : defL s.syms sn sp ad with
 | none => rw [hl] at h; cases h
 | some sy => rw [hl] at h; rw [← Option.some.inj h]; rfl
theorem alone_as {s s1 : St} {l : Line} (h : aloneF s l = .ok s1) (e : Int) : as2 s1 e = as2 s e := by
 unfold aloneF at h
 split at h
 ·rw [← Except.ok.inj h]
 ·split at h
  ·cases h
  ·split at h
   ·cases h
   ·rename_i h2
    rw [← Except.ok.inj h]; exact def_as h2 e
theorem erase_as {s s1 : St} {l : Line} (h : eraseF s l = .ok s1) (e : Int) : as2 s1 e = as2 s e := by
 unfold eraseF at h
 split at h
 ·cases h
 ·split at h
  ·cases h
  ·rename_i h2
   rw [← Except.ok.inj h]; exact (def_as h2 e : as2 _ e = as2 s e)
theorem equals_as {s s1 : St} {l : Line} (h : equalsF s l = .ok s1) (e : Int) : as2 s1 e = as2 s e := by
 unfold equalsF at h
 split at h
 ·split at h
  ·cases h
  ·rename_i h2; rw [← Except.ok.inj h]; exact def_as h2 e
 ·split at h
  ·cases h
  ·split at h
   ·cases h
   ·split at h
    ·cases h
    ·rename_i h2; rw [← Except.ok.inj h]; exact def_as h2 e
theorem prep2 (s s1 : St) (e : Int) (sy : List Sym) (w : List (Nat × Nat)) (x : Line) (ha : Adm x) (h : opK x.op ≤ 3) (hd : doF s x = .ok s1) : HeapCallK Tryz.prog (105 + opK x.op) [.ptr 100 0 44 0 0, x.av] (asH (as2 s e) sy w) (fun r Hout => r = tupV [] ∧ ∃ e', Hout = asH (as2 s1 e') sy w) (fun _ _ => False) := by
 have hal := ha.al
 have hrg := ha.rg
 rw [doF_k] at hd
 generalize opK x.op = k at *
 match k, h with
 | 0, _ =>
   have h4 : (0 : Int) ≤ x.arg.v ∧ x.arg.v ≤ 35 := hrg (alw_num hal rfl rfl)
   refine HeapCallK.imp (f105 (as2 s e) sy w x h4) (fun r Hout hr => ⟨hr.1, e, by rw [hr.2, ← Except.ok.inj hd]; congr 1; unfold as2 asOf; congr 1; dsimp only; omega⟩) fun _ _ h => h.elim
 | 1, _ =>
   have h4 : (0 : Int) ≤ x.arg.v ∧ x.arg.v ≤ 36863 := hrg (alw_num hal rfl rfl)
   refine HeapCallK.imp (f106 (as2 s e) sy w x h4) (fun r Hout hr => ⟨hr.1, e, by rw [hr.2, ← Except.ok.inj hd]; congr 1; unfold as2 asOf; congr 1 <;> dsimp only <;> omega⟩) fun _ _ h => h.elim
 | 2, _ =>
   have h4 : (0 : Int) ≤ x.arg.v ∧ x.arg.v ≤ 7 := hrg (alw_num hal rfl rfl)
   refine HeapCallK.imp (f107 (as2 s e) sy w x) (fun r Hout hr => ⟨hr.1, e, by rw [hr.2, ← Except.ok.inj hd]; congr 1; unfold as2 asOf; congr 1; dsimp only; omega⟩) fun _ _ h => h.elim
 | 3, _ => exact HeapCallK.imp (f108 (as2 s e) sy w x) (fun r Hout hr => ⟨hr.1, x.arg.v, by rw [hr.2, ← Except.ok.inj hd]; rfl⟩) fun _ _ h => h.elim
theorem opK_inv4 {n : List UInt8} (h : opK n = 4) : n = nERASE := by
 unfold opK at h
 by_cases e0 : n = nBANK
 ·rw [if_pos e0] at h; cases h
 rw [if_neg e0] at h
 by_cases e1 : n = nLOC
 ·rw [if_pos e1] at h; cases h
 rw [if_neg e1] at h
 by_cases e2 : n = nEBANK
 ·rw [if_pos e2] at h; cases h
 rw [if_neg e2] at h
 by_cases e3 : n = nELOC
 ·rw [if_pos e3] at h; cases h
 rw [if_neg e3] at h
 by_cases e4 : n = nERASE
 ·exact e4
 rw [if_neg e4] at h
 by_cases e5 : n = nEQUALS
 ·rw [if_pos e5] at h; cases h
 rw [if_neg e5] at h
 by_cases e6 : n = nOCT
 ·rw [if_pos e6] at h; cases h
 rw [if_neg e6] at h
 by_cases e7 : n = nDEC
 ·rw [if_pos e7] at h; cases h
 rw [if_neg e7] at h
 by_cases e8 : n = nADRES
 ·rw [if_pos e8] at h; cases h
 rw [if_neg e8] at h
 by_cases e9 : n = nCADR
 ·rw [if_pos e9] at h; cases h
 rw [if_neg e9] at h
 by_cases e10 : n = nECADR
 ·rw [if_pos e10] at h; cases h
 rw [if_neg e10] at h
 by_cases e : codeOf n ≠ 0
 ·rw [if_pos e] at h; cases h
 rw [if_neg e] at h; cases h
theorem op_is4 (n : List UInt8) : (n == nERASE) = decide (opK n = 4) := by
 by_cases h : n = nERASE
 ·subst h; decide +kernel
 ·rw [beq_eq_false_iff_ne.mpr h, decide_eq_false fun hk => h (opK_inv4 hk)]
theorem opK_inv5 {n : List UInt8} (h : opK n = 5) : n = nEQUALS := by
 unfold opK at h
 by_cases e0 : n = nBANK
 ·rw [if_pos e0] at h; cases h
 rw [if_neg e0] at h
 by_cases e1 : n = nLOC
 ·rw [if_pos e1] at h; cases h
 rw [if_neg e1] at h
 by_cases e2 : n = nEBANK
 ·rw [if_pos e2] at h; cases h
 rw [if_neg e2] at h
 by_cases e3 : n = nELOC
 ·rw [if_pos e3] at h; cases h
 rw [if_neg e3] at h
 by_cases e4 : n = nERASE
 ·rw [if_pos e4] at h; cases h
 rw [if_neg e4] at h
 by_cases e5 : n = nEQUALS
 ·exact e5
 rw [if_neg e5] at h
 by_cases e6 : n = nOCT
 ·rw [if_pos e6] at h; cases h
 rw [if_neg e6] at h
 by_cases e7 : n = nDEC
 ·rw [if_pos e7] at h; cases h
 rw [if_neg e7] at h
 by_cases e8 : n = nADRES
 ·rw [if_pos e8] at h; cases h
 rw [if_neg e8] at h
 by_cases e9 : n = nCADR
 ·rw [if_pos e9] at h; cases h
 rw [if_neg e9] at h
 by_cases e10 : n = nECADR
 ·rw [if_pos e10] at h; cases h
 rw [if_neg e10] at h
 by_cases e : codeOf n ≠ 0
 ·rw [if_pos e] at h; cases h
 rw [if_neg e] at h; cases h
theorem op_is5 (n : List UInt8) : (n == nEQUALS) = decide (opK n = 5) := by
 by_cases h : n = nEQUALS
 ·subst h; decide +kernel
 ·rw [beq_eq_false_iff_ne.mpr h, decide_eq_false fun hk => h (opK_inv5 hk)]
theorem alw_sym {f : Frm} {l : Line} (h : alwB f l = true) (h0 : f.no = false) (h2 : f.nu = false) (hk : l.arg.k = 0 ∨ l.arg.k = 1 ∨ l.arg.k = 2) : l.arg.k = 2 := by
 unfold alwB at h
 split at h
 ·cases h
 ·split at h
  ·rw [h0] at h; cases h
  ·split at h
   ·rw [h2] at h; cases h
   ·omega
theorem wordH (s : St) (e : Int) (sy : List Sym) (w : List (Nat × Nat)) (x : Line) (_ : Wf s) (ha : Adm x) (hn : NodupS sy) (hs : ∀ y ∈ sy, y.sp ≤ 2 ∧ -65535 ≤ y.ad ∧ y.ad ≤ 65535) (h : 6 ≤ opK x.op) : HeapCallK Tryz.prog (wdN (opK x.op)) [.ptr 100 0 44 0 0, x.av] (asH (as2 s e) sy w) (okW (wordF s sy x) (asH (as2 s e) sy w)) (erW (wordF s sy x) (asH (as2 s e) sy w)) := by
 have hal := ha.al
 have hrg := ha.rg
 have hle := opK_lt ha.kn
 have hp := prn_ok ha.pr
 have h11 : opK x.op = 11 → wordF s sy x = insF (as2 s e) sy x (codeOf x.op) := fun hk => by
  unfold wordF insF insK
  rw [hk, if_neg (by decide), if_neg (by decide)]
  by_cases h2 : x.arg.k = 2
  ·rw [if_pos h2, if_pos h2]
   cases findS sy x.arg.nm with
   | none => rfl
   | some y => rfl
  ·rw [if_neg h2, if_neg h2, if_neg (fun h => h rfl)]
 by_cases hk : opK x.op = 11
 ·rw [h11 hk, hk]; exact f120 (as2 s e) sy w x hn hk
 have e6 : opK x.op = 6 → wordF s sy x = (x.arg.v.toNat, 0) := fun hk => by unfold wordF; rw [hk, if_pos rfl]
 have e7 : opK x.op = 7 → wordF s sy x = (ofF x.arg.v, 0) := fun hk => by unfold wordF; rw [hk, if_neg (by decide), if_pos rfl]; rfl
 have e8 : opK x.op = 8 → x.arg.k = 2 → wordF s sy x = adrF (as2 s e) sy x := fun hk h2 => by
  unfold wordF adrF; rw [hk, if_neg (by decide), if_neg (by decide), if_pos h2]; cases findS sy x.arg.nm <;> rfl
 have e9 : opK x.op = 9 → x.arg.k = 2 → wordF s sy x = cadF sy x 2 := fun hk h2 => by
  unfold wordF cadF; rw [hk, if_neg (by decide), if_neg (by decide), if_pos h2]; cases findS sy x.arg.nm <;> rfl
 have e10 : opK x.op = 10 → x.arg.k = 2 → wordF s sy x = cadF sy x 1 := fun hk h2 => by
  unfold wordF cadF; rw [hk, if_neg (by decide), if_neg (by decide), if_pos h2]; cases findS sy x.arg.nm <;> rfl
 generalize opK x.op = k at *
 match k, h, hle with
 | 6, _, _ => rw [e6 rfl]; exact f111 (as2 s e) sy w x (hrg (alw_num hal rfl rfl))
 | 7, _, _ => rw [e7 rfl]; exact f112 (as2 s e) sy w x (hrg (alw_num hal rfl rfl))
 | 8, _, _ => rw [e8 rfl (alw_sym hal rfl rfl hp.1)]; exact f115 (as2 s e) sy w x hn
 | 9, _, _ => rw [e9 rfl (alw_sym hal rfl rfl hp.1)]; exact f117 (as2 s e) sy w x hn hs hp.2
 | 10, _, _ => rw [e10 rfl (alw_sym hal rfl rfl hp.1)]; exact f119 (as2 s e) sy w x hn hs hp.2
 | 11, _, _ => exact absurd rfl hk
theorem as_adv2 (s : St) (sy : List Sym) (n : Nat) (m : Bool) (e : Int) (hn : n = 1 ∨ n = 2) (h : s.off + n ≤ 1024) : ({ as2 s e with off := (as2 s e).off + (n : Int), aft := setA (as2 s e).aft (as2 s e).bank.toNat (max ((as2 s e).aft (as2 s e).bank.toNat) ((as2 s e).off + (n : Int))), mark := m } : AsS) = as2 { s with syms := sy, off := s.off + n, mark := m, used := s.used ++ newA s n } e :=
 congrArg (fun a : AsS => { a with er := e }) (as_adv s sy n m hn h)
end Go.Proofs.YtkeecnoafjhhdaaGreatDoor
namespace Go.Proofs.YtkeecnoafjhhdaaGreatDoor
open Go Go.AM
theorem updW_set {k v : Nat} : ∀ (w : List (Nat × Nat)) (i : Nat) (hi : i < w.length), w[i].1 = k → (w.map Prod.fst).Nodup → updW w k v = w.set i (k, v)
 | [], i, hi, _, _ => absurd hi (Nat.not_lt_zero i)
 | q :: w, 0, _, he, _ => by
   show (if q.1 = k then (k, v) :: w else q :: updW w k v) = (k, v) :: w
   rw [if_pos (show q.1 = k from he)]
 | q :: w, i + 1, hi, he, hn => by
   rw [List.map_cons, List.nodup_cons] at hn
   have hi' : i < w.length := Nat.lt_of_succ_lt_succ hi
   have hne : q.1 ≠ k := fun e => hn.1 (List.mem_map.mpr ⟨w[i], List.getElem_mem hi', by rw [e]; exact he⟩)
   show (if q.1 = k then (k, v) :: w else q :: updW w k v) = q :: w.set i (k, v)
   rw [if_neg hne, updW_set w i hi' he hn.2]
theorem wrd_f {w : List (Nat × Nat)} {i : Nat} (h : i < w.length) : (wrdO w).f i 0 = i64 w[i].1 ∧ (wrdO w).f i 1 = u16 w[i].2 := by
 have e : (w.map wrdP).getD i (.nilS, .nilS) = wrdP w[i] := by rw [List.getD_eq_getElem?_getD, List.getElem?_map, List.getElem?_eq_getElem h]; rfl
 exact ⟨by show ((w.map wrdP).getD i (.nilS, .nilS)).1 = _; rw [e]; rfl, by show ((w.map wrdP).getD i (.nilS, .nilS)).2 = _; rw [e]; rfl⟩
theorem wrd_nil {w : List (Nat × Nat)} {i : Nat} (h : w.length ≤ i) : (wrdO w).f i 0 = .nilS ∧ (wrdO w).f i 1 = .nilS := by
 have e : (w.map wrdP).getD i (.nilS, .nilS) = (.nilS, .nilS) := by rw [List.getD_eq_getElem?_getD, List.getElem?_map, List.getElem?_eq_none h]; rfl
 exact ⟨by show ((w.map wrdP).getD i (.nilS, .nilS)).1 = _; rw [e], by show ((w.map wrdP).getD i (.nilS, .nilS)).2 = _; rw [e]⟩
theorem wrd_set {H : Heap} {B : List Nat} {U : List (Nat × Nat)} {w : List (Nat × Nat)} {i k v : Nat} {ρ : Nat → Nat} {vv : AV} (hn : (w.map Prod.fst).Nodup) (hi : i < (wrdO w).E) (he : (wrdO w).f i 0 = i64 k) (h : VLe H B U vv (u16 v)) :
  ObLe H B U { AO.ren ρ (wrdO w) with f := setV (AO.ren ρ (wrdO w)).f i vv } (wrdO (updW w k v)) := by
 rw [wrdO_ren]
 have hl : i < w.length := by have : (wrdO w).E = (w.map wrdP).length := rfl; rw [this, List.length_map] at hi; exact hi
 have hk : w[i].1 = k := by
  have := (wrd_f hl).1.symm.trans he
  unfold i64 at this
  injection this with this
  injection this with _ this
  omega
 rw [updW_set w i hl hk hn]
 refine mpLe (l := (w.set i (k, v)).map wrdP) (by show (w.map wrdP).length = _; simp) rfl rfl rfl fun i' j _ hj => ?_
 show VLe H B U (setV (wrdO w).f i vv i' j) ((wrdO (w.set i (k, v))).f i' j)
 unfold setV
 by_cases hl' : i' < w.length
 ·have hl2 : i' < (w.set i (k, v)).length := by simpa using hl'
  by_cases hii : i' = i
  ·subst hii
   match j, hj with
   | 0, _ => rw [Nat.beq_refl, (wrd_f hl2).1]; show VLe H B U ((wrdO w).f i' 0) _; rw [(wrd_f hl').1]; simp only [List.getElem_set_self]; rw [hk]; exact .same
   | 1, _ => rw [Nat.beq_refl, (wrd_f hl2).2]; simp only [List.getElem_set_self]; exact h
  ·have hb : Nat.beq i' i = false := nbeqF hii
   rw [hb]
   match j, hj with
   | 0, _ => rw [(wrd_f hl2).1]; show VLe H B U ((wrdO w).f i' 0) _; rw [(wrd_f hl').1, List.getElem_set_ne (Ne.symm hii)]; exact .same
   | 1, _ => rw [(wrd_f hl2).2]; show VLe H B U ((wrdO w).f i' 1) _; rw [(wrd_f hl').2, List.getElem_set_ne (Ne.symm hii)]; exact .same
 ·have hb : Nat.beq i' i = false := nbeqF (by omega)
  have hl2 : (w.set i (k, v)).length ≤ i' := by simp; omega
  rw [hb]
  match j, hj with
  | 0, _ => rw [(wrd_nil hl2).1]; show VLe H B U ((wrdO w).f i' 0) _; rw [(wrd_nil (by omega)).1]; exact .nils
  | 1, _ => rw [(wrd_nil hl2).2]; show VLe H B U ((wrdO w).f i' 1) _; rw [(wrd_nil (by omega)).2]; exact .nils
theorem wrd_put {H : Heap} {B : List Nat} {U : List (Nat × Nat)} {w : List (Nat × Nat)} {k v : Nat} {ρ : Nat → Nat} {kv vv : AV} (hk : kv = i64 k) (hno : ∀ q ∈ w, q.1 ≠ k) (h : VLe H B U vv (u16 v)) :
  ObLe H B U ⟨(AO.ren ρ (wrdO w)).E + 1, (AO.ren ρ (wrdO w)).gen, 0, 0, pushV (AO.ren ρ (wrdO w)).f (AO.ren ρ (wrdO w)).E kv vv⟩ (wrdO (updW w k v)) := by
 rw [wrdO_ren, updW_end hno]
 exact wrd_push hk h
end Go.Proofs.YtkeecnoafjhhdaaGreatDoor
namespace Go.Proofs.YtkeecnoafjhhdaaGreatDoor
open Go Go.AM
attribute [local irreducible] AWP CallK PureCall SubS HeapCallK
def sndP (s s1 : St) (sy : List Sym) (w : List (Nat × Nat)) (x : Line) (r : AV) (Hout : List (Nat × AO)) : Prop :=
 (putsB x = true ∧ (wordF s sy x).2 ≠ 0 ∧ r = i64 (wordF s sy x).2 ∧ ∃ a l w', Hout = asH a l w') ∨
 (putsB x = true ∧ (wordF s sy x).2 = 0 ∧ r = i64 0 ∧ ∃ e, Hout = asH (as2 s1 e) sy (updW w (s.adr + (cntK (opK x.op) x.op s.mark - 1)) (wordF s sy x).1)) ∨
 (putsB x = false ∧ r = i64 0 ∧ ∃ e, Hout = asH (as2 s1 e) sy w)
noncomputable abbrev Q37 (post : AV → List (Nat × AO) → Prop) : APost := recQK Tryz.prog tab Tryz.f37.results.toList (cgF Tryz.f67) Tryz.f67.ntmps 1 4 1 67 kpA post
theorem dret37 {st : ASt} {post : AV → List (Nat × AO) → Prop} (a : AsS) (l : List Sym) (w : List (Nat × Nat)) (h : SubS st (dfS 48 67 0 a l w)) (hp : post (i64 0) (asH a l w)) : Q37 post .ret st := ⟨_, h, ret37 hp⟩
def R37 (s s1 : St) (sy : List Sym) (w : List (Nat × Nat)) (x : Line) : APost := fun e st => match e with
 | .panic v => ∃ e a l w', v = faultV e ∧ (putsB x = true ∧ (wordF s sy x).2 ≠ 0 ∧ e = (wordF s sy x).2) ∧ SubS (only st 4) (dfS 48 67 0 a l w')
 | e => Q37 (sndP s s1 sy w x) e st
theorem R37Q {s s1 : St} {sy : List Sym} {w : List (Nat × Nat)} {x : Line} {e : AExit} {st : ASt} (h : R37 s s1 sy w x e st) : Q37 (sndP s s1 sy w x) e st := by
 cases e with
 | panic v =>
   obtain ⟨e, a, l, w', rfl, hp, h⟩ := h
   exact ⟨rfl, _, SubS.trans (SubS.only st 4) h, rec37 (.inl ⟨hp.1, hp.2.1, by rw [hp.2.2], a, l, w', rfl⟩)⟩
 | normal => exact h
 | ret => exact h
 | exit i => exact h
theorem r37Q {sx s1 : St} {sy : List Sym} {w : List (Nat × Nat)} {x : Line} {r : AV} {nt : Nat} {s s' : Nat → Option AV} {H : Heap} {U : List Nat} {X : Ext} (h1 : ∀ t, Nat.beq t 4 = true → s t = s' t) (h : R37 sx s1 sy w x (.panic r) ⟨nt, s, H, U, X⟩) : R37 sx s1 sy w x (.panic r) ⟨nt, s', H, U, X⟩ := by
 obtain ⟨e, a, l, w', h2, hp, h⟩ := h
 refine ⟨e, a, l, w', h2, hp, ?_⟩
 unfold only at h ⊢
 dsimp only at h ⊢
 rw [← h1 4 rfl]; exact h
theorem dpan37 {st : ASt} {s s1 : St} {sy : List Sym} {w0 : List (Nat × Nat)} {x : Line} {e : Int} (a : AsS) (l : List Sym) (w : List (Nat × Nat)) (h : SubS (only st 4) (dfS 48 67 0 a l w)) (hp : putsB x = true ∧ (wordF s sy x).2 ≠ 0 ∧ e = (wordF s sy x).2) : R37 s s1 sy w0 x (.panic (faultV e)) st := ⟨e, a, l, w, rfl, hp, h⟩
def snS (a : AsS) (sy : List Sym) (w : List (Nat × Nat)) (x : Line) : ASt := mkStX 48 [(0, .ptr 100 0 44 0 0), (3, .ptr 3 0 5 0 0), (4, .ptr 4 0 1 0 0)] ((3, lineO x) :: (4, clO 28 (i64 0)) :: asH a sy w) (XDK (dfF 67) kpA)
def s4S (o : Opr) (a : AsS) (sy : List Sym) (w : List (Nat × Nat)) (x : Line) : ASt := mkStX 48 [(0, .ptr 100 0 44 0 0), (3, .ptr 3 0 5 0 0), (4, .ptr 4 0 1 0 0), (5, .ptr 5 0 15 0 0)] ((3, lineO x) :: (4, clO 28 (i64 0)) :: (5, oprB o) :: asH a sy w) (XDK (dfF 67) kpA)
set_option maxHeartbeats 4000000 in
theorem f37 (s s1 : St) (e : Int) (sy : List Sym) (w : List (Nat × Nat)) (x : Line) (hw : Wf s) (hst : stepF s x = .ok s1) (hwn : (w.map Prod.fst).Nodup) (hn : NodupS sy) (hs : ∀ y ∈ sy, y.sp ≤ 2 ∧ -65535 ≤ y.ad ∧ y.ad ≤ 65535) : HeapCallK Tryz.prog 37 [.ptr 100 0 44 0 0, x.av] (asH (as2 s e) sy w) (sndP s s1 sy w x) (fun _ _ => False) := by
 refine HeapCallK.recover (g := 67) (nc := 1) tab_ok mixed (by kernel_rfl) Tryz.func37 rfl rfl rfl rfl rfl (by kernel_rfl) Tryz.func67 rfl rfl rfl (by decide) (by decide) (by decide) (by decide) (by decide) ?_
 refine W0 ?_
 refine ⟨rfl, _, _, rfl, ?_⟩
 refine AWP.sub (st' := snS (as2 s e) sy w x) (SubS.mkDK [] rfl ⟨⟨_, rfl, .pq rfl⟩, ⟨_, rfl, .pq rfl⟩, ⟨_, rfl, .pq rfl⟩, trivial⟩
  ⟨.inl ⟨_, _, rfl, rfl, rfl, line_box rfl rfl rfl rfl fun _ => rfl⟩, .inl ⟨_, _, rfl, rfl, rfl, clLe rfl rfl rfl rfl .same⟩, allAsz rfl rfl rfl rfl rfl (as_keep rfl rfl rfl) sym_keep wrd_keep⟩ (dfLe (h := getL [.ptr 4 0 1 0 0]) (.pq rfl))) ?_
 show AWP _ _ (Q37 (sndP s s1 sy w x)) _
 refine AWP.mono ?_ fun _ _ h => R37Q h
 unfold snS
 rcases step_inv hst with ⟨hp, ho, hal⟩ | ⟨ha, hd⟩
 ·refine pW ?_
  refine ⟨fun _ => ?_, fun h => absurd ho (nm h)⟩
  refine W0 ?_
  refine W0 ?_
  exact dret37 _ _ _ (SubS.mkDK [] rfl ⟨⟨_, rfl, .pq rfl⟩, trivial⟩ ⟨.inl ⟨_, _, rfl, rfl, rfl, clLe rfl rfl rfl rfl .same⟩, allAsz rfl rfl rfl rfl rfl (as_keep rfl rfl rfl) (sym_keep) (wrd_keep)⟩ (dfLe (h := getL [.ptr 4 0 1 0 0]) (.pq rfl))) (.inr (.inr ⟨by unfold putsB; rw [ho]; rfl, rfl, e, by rw [alone_as hal]⟩))
 ·have ho : ¬ x.op = [] := ha.op
  refine pW ?_
  refine ⟨fun h => absurd (nm h) ho, fun _ => ?_⟩
  refine W0 ?_
  refine pW ?_
  refine CallK.heapK (f68 (as2 s e) sy w x.op) [] [(100, 100), (101, 101), (102, 102), (103, 103)] rfl rfl rfl ⟨.pq rfl, .same, trivial⟩ (allAsz rfl rfl rfl rfl rfl (as_keep rfl rfl rfl) (sym_keep) (wrd_keep)) 7000 rfl (fun r Hout hr => ?_) (fun r Hout hr => ?_)
  ·obtain ⟨hk12, rfl, rfl⟩ := hr
   have hk := opK_lt hk12
   have h4 := op_is4 x.op
   have h5 := op_is5 x.op
   rcases Nat.lt_or_ge (opK x.op) 6 with h6 | h6
   ·have hO := opr_prep (as2 s e).mark (show opK x.op ≤ 5 by omega)
    rw [hO]
    generalize hF : frmK (opK x.op) x.op = F at *
    have hpt : putsB x = false := by unfold putsB; rw [decide_eq_false (show ¬ 6 ≤ opK x.op by omega), Bool.and_false]
    refine W0 ?_
    refine AWP.sub (st' := s4S ⟨F, 0, some (105 + opK x.op), none, op0⟩ (as2 s e) sy w x) (SubS.mkDK [] rfl ⟨⟨_, rfl, .pq rfl⟩, ⟨_, rfl, .pq rfl⟩, ⟨_, rfl, .pq rfl⟩, ⟨_, rfl, .pq rfl⟩, trivial⟩ ⟨.inl ⟨_, _, rfl, rfl, rfl, line_keep⟩, .inl ⟨_, _, rfl, rfl, rfl, clLe rfl rfl rfl rfl .same⟩, .inl ⟨_, _, rfl, rfl, rfl, oprB_le rfl rfl rfl rfl .same .same .same .same .same .same .same fn0_le .same .same .same .same .same .same .same⟩, allAsRz rfl rfl rfl rfl rfl (as_keepR rfl rfl rfl) sym_keepR wrd_keepR⟩ (dfLe (h := getL [.ptr 4 0 1 0 0]) (.pq rfl))) ?_
    unfold s4S
    by_cases k4 : opK x.op = 4
    ·rw [decide_eq_true k4] at h4
     refine pW ?_
     refine ag h4 ?_
     refine W0 ?_
     refine ag h4 ?_
     refine W0 ?_
     refine W0 ?_
     exact dret37 _ _ _ (SubS.mkDK [] rfl ⟨⟨_, rfl, .pq rfl⟩, trivial⟩ ⟨.inl ⟨_, _, rfl, rfl, rfl, clLe rfl rfl rfl rfl .same⟩, allAsz rfl rfl rfl rfl rfl (as_keep rfl rfl rfl) (sym_keep) (wrd_keep)⟩ (dfLe (h := getL [.ptr 4 0 1 0 0]) (.pq rfl))) (.inr (.inr ⟨hpt, rfl, e, by rw [erase_as (show eraseF s x = .ok s1 from by rw [doF_k, k4] at hd; exact hd)]⟩))
    ·rw [decide_eq_false k4] at h4
     by_cases k5 : opK x.op = 5
     ·rw [decide_eq_true k5] at h5
      refine pW ?_
      refine af h4 ?_
      refine W0 ?_
      refine ag h5 ?_
      refine W0 ?_
      refine W0 ?_
      exact dret37 _ _ _ (SubS.mkDK [] rfl ⟨⟨_, rfl, .pq rfl⟩, trivial⟩ ⟨.inl ⟨_, _, rfl, rfl, rfl, clLe rfl rfl rfl rfl .same⟩, allAsz rfl rfl rfl rfl rfl (as_keep rfl rfl rfl) (sym_keep) (wrd_keep)⟩ (dfLe (h := getL [.ptr 4 0 1 0 0]) (.pq rfl))) (.inr (.inr ⟨hpt, rfl, e, by rw [equals_as (show equalsF s x = .ok s1 from by rw [doF_k, k5] at hd; exact hd)]⟩))
     ·rw [decide_eq_false k5] at h5
      have hP := prep2 s s1 e sy w x ha (show opK x.op ≤ 3 by omega) hd
      refine pW ?_
      refine af h4 ?_
      refine W0 ?_
      refine af h5 ?_
      refine W0 ?_
      refine pW ?_
      refine CallK.heapK (hP) [] [(100, 100), (101, 101), (102, 102), (103, 103)] rfl rfl rfl ⟨.pq rfl, lineV .same .same .same .same .same, trivial⟩ (allAsz rfl rfl rfl rfl rfl (as_keep rfl rfl rfl) (sym_keep) (wrd_keep)) 9000 rfl (fun r Hout hr => ?_) (fun r Hout hr => ?_)
      ·obtain ⟨rfl, e', rfl⟩ := hr
       refine W0 ?_
       refine W0 ?_
       exact dret37 _ _ _ (SubS.mkDK [] rfl ⟨⟨_, rfl, .pq rfl⟩, trivial⟩ ⟨.inl ⟨_, _, rfl, rfl, rfl, clLe rfl rfl rfl rfl .same⟩, allAsRz rfl rfl rfl rfl rfl (as_keepR rfl rfl rfl) (sym_keepR) (wrd_keepR)⟩ (dfLe (h := getL [.ptr 4 0 1 0 0]) (.pq rfl))) (.inr (.inr ⟨hpt, rfl, e', rfl⟩))
      ·exact hr.elim
   ·obtain ⟨op, hO, hop⟩ := opr_word (as2 s e).mark h6 hk
    rw [hO]
    have hpt : putsB x = true := by unfold putsB; rw [decide_eq_true ho, decide_eq_true h6]; rfl
    have hW := wordH s e sy w x hw ha hn hs h6
    have step6 : place s x (cntK (opK x.op) x.op s.mark) = .ok s1 := by
     rw [doF_k] at hd
     generalize opK x.op = k at *
     match k, h6 with
     | k + 6, _ => exact hd
    obtain ⟨h13, ⟨sy1, hsy1, hs1⟩, hnew⟩ := place_ok step6
    have hcn : cntK (opK x.op) x.op s.mark = 1 ∨ cntK (opK x.op) x.op s.mark = 2 := cnt_pos h6
    have hm : (as2 s e).mark = s.mark := rfl
    rw [hm]
    generalize hF : frmK (opK x.op) x.op = F at *
    rw [decide_eq_false (show ¬ opK x.op = 4 by omega)] at h4
    rw [decide_eq_false (show ¬ opK x.op = 5 by omega)] at h5
    have hP37 : ∀ r Hout, r = i64 0 → (wordF s sy x).2 = 0 → (∃ e, Hout = asH (as2 s1 e) sy (updW w (s.adr + (cntK (opK x.op) x.op s.mark - 1)) (wordF s sy x).1)) → sndP s s1 sy w x r Hout := fun r Hout h1 h2 h3 => .inr (.inl ⟨hpt, h2, h1, h3⟩)
    generalize cntK (opK x.op) x.op s.mark = n at *
    have hbank := hw.bank
    have hb : 0 ≤ (as2 s e).bank ∧ (as2 s e).bank < 65536 := ⟨Int.natCast_nonneg _, by show (s.bank : Int) < 65536; omega⟩
    have ho' : 0 ≤ (as2 s e).off ∧ (as2 s e).off < 65536 := ⟨Int.natCast_nonneg _, by show (s.off : Int) < 65536; omega⟩
    refine W0 ?_
    refine AWP.sub (st' := s4S ⟨F, (n : Nat), none, some (wdN (opK x.op)), op⟩ (as2 s e) sy w x) (SubS.mkDK [] rfl ⟨⟨_, rfl, .pq rfl⟩, ⟨_, rfl, .pq rfl⟩, ⟨_, rfl, .pq rfl⟩, ⟨_, rfl, .pq rfl⟩, trivial⟩ ⟨.inl ⟨_, _, rfl, rfl, rfl, line_keep⟩, .inl ⟨_, _, rfl, rfl, rfl, clLe rfl rfl rfl rfl .same⟩, .inl ⟨_, _, rfl, rfl, rfl, oprB_le rfl rfl rfl rfl .same .same .same .same .same .same .same .same fn0_le .same .same .same .same .same .same⟩, allAsRz rfl rfl rfl rfl rfl (as_keepR rfl rfl rfl) sym_keepR wrd_keepR⟩ (dfLe (h := getL [.ptr 4 0 1 0 0]) (.pq rfl))) ?_
    unfold s4S
    refine pW ?_
    refine af h4 ?_
    refine W0 ?_
    refine af h5 ?_
    refine W0 ?_
    refine pW ?_
    refine pW ?_
    refine CallK.heapK (hW) [] [(100, 100), (101, 101), (102, 102), (103, 103)] rfl rfl rfl ⟨.pq rfl, lineV .same .same .same .same .same, trivial⟩ (allAsz rfl rfl rfl rfl rfl (as_keep rfl rfl rfl) (sym_keep) (wrd_keep)) 9000 rfl (fun r Hout hr => ?_) (fun r Hout hr => ?_)
    ·obtain ⟨h0, rfl, rfl⟩ := hr
     refine W0 ?_
     refine awp_cut (fun _ : Unit => s4S ⟨F, (n : Nat), none, some (wdN (opK x.op)), op⟩ (as2 s e) sy (updW w (s.adr + (n - 1)) (wordF s sy x).1) x) (fun _ => True) (fun K hK => ?_) (fun _ _ => ?_)
     ·refine awp_treeG tab_ok mixed [0, 1, 2, 4, 6, 8, 9, 10] [3, 7] (.alt 0 (.alt 1 (.alt 2 (.alt 4 (.alt 6 (.alt 10 (.br 3 (.br 5 (.alt 7 (.alt 8 (.alt 9 (.alt 11 .done)))) (.alt 7 (.alt 5 (.alt 8 (.alt 9 (.alt 11 .done)))))) (.br 5 (.br 3 (.alt 7 (.alt 8 (.alt 9 (.alt 11 .done)))) (.skip (.alt 7 (.alt 8 (.alt 9 .dead))))) (.alt 7 (.alt 5 (.alt 8 (.alt 9 (.alt 3 (.alt 11 .done)))))))))))))) (by kernel_rfl) (fun t => Nat.beq t 4) (by kernel_rfl) (fun _ _ _ _ _ _ _ h1 h2 => (r37Q (s1 := s1) (w := w)) h1 h2) ?_
      conv => whnf
      repeat' (first | (refine W1 ?_) | exact trivial | (refine And2.mk ?_ ?_ <;> (conv => whnf)))
      all_goals
       refine CallK.heapK (f69 (as2 s e) sy w hb ho') [] [(100, 100), (101, 101), (102, 102), (103, 103)] rfl rfl rfl ⟨.pq rfl, trivial⟩ (allAsRz rfl rfl rfl rfl rfl (as_keepR rfl rfl rfl) (sym_keepR) (wrd_keepR)) 10000 rfl (fun r Hout hr => ?_) (fun r Hout hr => ?_)
       ·obtain ⟨rfl, rfl⟩ := hr
        conv => whnf
        repeat' (first | (refine W1 ?_) | exact trivial | (refine And2.mk ?_ ?_ <;> (conv => whnf)))
        refine ⟨⟨by show inI64 (1024 * (s.bank : Int) + s.off + n); unfold inI64; omega⟩, ?_⟩
        refine W0 ?_
        conv => whnf
        repeat' (first | (refine W1 ?_) | exact trivial | (refine And2.mk ?_ ?_ <;> (conv => whnf)))
        refine ⟨⟨by show inI64 (1024 * (s.bank : Int) + s.off + n - 1); unfold inI64; omega⟩, ?_⟩
        refine W0 ?_
        conv => whnf
        repeat' (first | (refine W1 ?_) | exact trivial | (refine And2.mk ?_ ?_ <;> (conv => whnf)))
        have hkey : (AV.pv (.int .i64 (1024 * (as2 s e).bank + (as2 s e).off + (n : Nat) - 1))) = i64 ((s.adr + (n - 1) : Nat) : Int) := congrArg i64 (by show 1024 * (s.bank : Int) + s.off + n - 1 = ((1024 * s.bank + s.off + (n - 1) : Nat) : Int); omega)
        refine ⟨fun k hk he => ?_, fun hno => ?_⟩
        ·have he' := (ren_at.symm.trans he).trans hkey
         conv => whnf
         repeat' (first | (refine W1 ?_) | exact trivial | (refine And2.mk ?_ ?_ <;> (conv => whnf)))
         exact hK _ () trivial (SubS.mkDK [] rfl ⟨⟨_, rfl, .pq rfl⟩, ⟨_, rfl, .pq rfl⟩, ⟨_, rfl, .pq rfl⟩, ⟨_, rfl, .pq rfl⟩, trivial⟩ ⟨.inl ⟨_, _, rfl, rfl, rfl, line_keep⟩, .inl ⟨_, _, rfl, rfl, rfl, clLe rfl rfl rfl rfl .same⟩, .inl ⟨_, _, rfl, rfl, rfl, oprB_le rfl rfl rfl rfl .same .same .same .same .same .same .same .same fn0_le .same .same .same .same .same .same⟩, allAsRz rfl rfl rfl rfl rfl (as_keepR rfl rfl rfl) sym_keepR (wrd_set hwn hk he' .same)⟩ (dfLe (h := getL [.ptr 4 0 1 0 0]) (.pq rfl)))
        ·have hno' : ∀ q ∈ w, q.1 ≠ s.adr + (n - 1) := fun q hq e' => by
          obtain ⟨k, h1, h2⟩ := wrd_of hq
          exact hno k h1 (ren_at.trans (h2.trans ((by rw [e'] : i64 (q.1 : Int) = i64 ((s.adr + (n - 1) : Nat) : Int)).trans hkey.symm)))
         conv => whnf
         repeat' (first | (refine W1 ?_) | exact trivial | (refine And2.mk ?_ ?_ <;> (conv => whnf)))
         exact hK _ () trivial (SubS.mkDK [] rfl ⟨⟨_, rfl, .pq rfl⟩, ⟨_, rfl, .pq rfl⟩, ⟨_, rfl, .pq rfl⟩, ⟨_, rfl, .pq rfl⟩, trivial⟩ ⟨.inl ⟨_, _, rfl, rfl, rfl, line_keep⟩, .inl ⟨_, _, rfl, rfl, rfl, clLe rfl rfl rfl rfl .same⟩, .inl ⟨_, _, rfl, rfl, rfl, oprB_le rfl rfl rfl rfl .same .same .same .same .same .same .same .same fn0_le .same .same .same .same .same .same⟩, allAsRz rfl rfl rfl rfl rfl (as_keepR rfl rfl rfl) sym_keepR (wrd_put hkey hno' .same)⟩ (dfLe (h := getL [.ptr 4 0 1 0 0]) (.pq rfl)))
       ·exact hr.elim
     ·unfold s4S
      refine pW ?_
      refine CallK.heapK (f70 (as2 s e) sy (updW w (s.adr + (n - 1)) (wordF s sy x).1) F (n : Nat) (wdN (opK x.op)) op x ⟨Int.natCast_nonneg _, by show (s.bank : Int) ≤ 35; omega⟩ ⟨Int.natCast_nonneg _, by show (s.off : Int) ≤ 1024; omega⟩ (by omega)) [] [(100, 100), (101, 101), (102, 102), (103, 103)] rfl rfl rfl ⟨.pq rfl, oprV .same .same .same .same .same .same .same .same fn0_le .same .same .same .same .same .same, lineV .same .same .same .same .same, trivial⟩ (allAsz rfl rfl rfl rfl rfl (as_keep rfl rfl rfl) (sym_keep) (wrd_keep)) 13000 rfl (fun r Hout hr => ?_) (fun r Hout hr => ?_)
      ·obtain ⟨rfl, rfl⟩ := hr
       rw [as_adv2 s sy1 n _ e hcn h13, ← hs1]
       refine W0 ?_
       refine awp_last tab_ok mixed ?_
       refine W0 ?_
       refine W0 ?_
       exact dret37 _ _ _ (SubS.mkDK [] rfl ⟨⟨_, rfl, .pq rfl⟩, trivial⟩ ⟨.inl ⟨_, _, rfl, rfl, rfl, clLe rfl rfl rfl rfl .same⟩, allAsRz rfl rfl rfl rfl rfl (as_keepR rfl rfl rfl) (sym_keepR) (wrd_keepR)⟩ (dfLe (h := getL [.ptr 4 0 1 0 0]) (.pq rfl))) (hP37 _ _ rfl h0 ⟨e, rfl⟩)
      ·exact hr.elim
    ·obtain ⟨h0, rfl, rfl⟩ := hr
     refine W0 ?_
     show R37 s s1 sy w x (.panic (faultV _)) _
     exact dpan37 _ _ _ (SubS.mkDK [] rfl ⟨⟨_, rfl, .pq rfl⟩, trivial⟩ ⟨.inl ⟨_, _, rfl, rfl, rfl, clLe rfl rfl rfl rfl .same⟩, allAsRz rfl rfl rfl rfl rfl (as_keepR rfl rfl rfl) (sym_keepR) (wrd_keepR)⟩ (dfLe (h := getL [.ptr 4 0 1 0 0]) (.pq rfl))) (⟨hpt, h0, rfl⟩)
  ·obtain ⟨hk, rfl, rfl⟩ := hr
   exact absurd hk ha.kn
def procF (g : Nat) : AV := .func (.func g) 1 (getL [.ptr 100 0 44 0 0]) 0 (getL [])
theorem procLe {H : Heap} {B : List Nat} {U : List (Nat × Nat)} {g : Nat} (h : VLe H B U (.ptr 100 0 44 0 0) (.ptr 100 0 44 0 0)) : VLe H B U (procF g) (procF g) :=
 .func _ _ _ _ _ _ _ (fun i hi => by
  have hi0 : i = 0 := Nat.lt_one_iff.mp hi
  subst hi0
  exact h) (fun i hi => absurd hi (Nat.not_lt_zero i))
set_option maxHeartbeats 2000000 in
theorem f36 {σ : Type} (g : Nat) (L : List Line) (A : σ → AsS) (S : σ → List Sym) (V : σ → List (Nat × Nat)) (I : Nat → σ → Prop) (E : Nat → σ → Int → Prop) (hL : L.length < 2 ^ 47)
  (step : ∀ i s, i < L.length → I i s → HeapCallK Tryz.prog g [.ptr 100 0 44 0 0, (L.getD i lz).av] (asH (A s) (S s) (V s)) (fun r Hout => (∃ s', I (i + 1) s' ∧ r = i64 0 ∧ Hout = asH (A s') (S s') (V s')) ∨ (∃ e, E i s e ∧ e ≠ 0 ∧ r = i64 e ∧ ∃ a l w, Hout = asH a l w)) (fun _ _ => False))
  (s0 : σ) (h0 : I 0 s0) : HeapCallK Tryz.prog 36 [.pv (linesP L), procF g] (asH (A s0) (S s0) (V s0)) (fun r Hout => (∃ s', I L.length s' ∧ r = tupV [i64 0, i64 0] ∧ Hout = asH (A s') (S s') (V s')) ∨ (∃ i s e, i < L.length ∧ I i s ∧ E i s e ∧ e ≠ 0 ∧ r = tupV [i64 ((i + 1 : Nat) : Int), i64 e] ∧ ∃ a l w, Hout = asH a l w)) (fun _ _ => False) := by
 refine HeapCallK.run tab_ok mixed (by kernel_rfl) Tryz.func36 rfl rfl rfl ?_
 refine W0 ?_
 refine ex_loop tab_ok mixed (fun x : Nat × σ => x.1 ≤ L.length ∧ I x.1 x.2) (fun x => mkStK 25 [(1, procF g), (9, .pv (linesP L)), (10, i64 L.length), (11, i64 x.1)] (asH (A x.2) (S x.2) (V x.2)) [100, 101, 102, 103]) (fun x => L.length - x.1) (0, s0) ⟨Nat.zero_le _, h0⟩ (SubS.mkK [] rfl ⟨⟨_, rfl, procLe (.pq rfl)⟩, ⟨_, rfl, .same⟩, ⟨_, rfl, .same⟩, ⟨_, rfl, .same⟩, trivial⟩ (allAsz rfl rfl rfl rfl rfl (as_keep rfl rfl rfl) sym_keep wrd_keep)) ?_
 rintro ⟨i, s⟩ ⟨hi, hI⟩
 dsimp only at hi hI ⊢
 refine W0 ?_
 refine tr (fun hc => ?_) fun hc => ?_
 ·have hlt : i < L.length := by omega
  refine W0 ?_
  refine ⟨⟨by omega, by omega, rfl⟩, ?_⟩
  refine W0 ?_
  refine ⟨⟨nle rfl⟩, ?_⟩
  refine W0 ?_
  refine CallK.heapK (step i s hlt hI) [] [(100, 100), (101, 101), (102, 102), (103, 103)] rfl rfl rfl ⟨.pq rfl, lineV .same .same .same .same .same, trivial⟩ (allAsz rfl rfl rfl rfl rfl (as_keep rfl rfl rfl) (sym_keep) (wrd_keep)) 3000 rfl (fun r Hout hr => ?_) (fun r Hout hr => ?_)
  ·rcases hr with ⟨s', hI', rfl, rfl⟩ | ⟨e, hE, he0, rfl, a', l', w', rfl⟩
   ·refine W0 ?_
    refine ⟨fun h => absurd (nm h) (fun h => h rfl), fun _ => ?_⟩
    refine W0 ?_
    refine ⟨⟨by unfold inI64; omega⟩, ?_⟩
    refine W0 ?_
    exact ⟨(i + 1, s'), ⟨hlt, hI'⟩, SubS.mkK [] rfl ⟨⟨_, rfl, procLe (.pq rfl)⟩, ⟨_, rfl, .same⟩, ⟨_, rfl, .same⟩, ⟨_, rfl, .same⟩, trivial⟩ (allAsRz rfl rfl rfl rfl rfl (as_keepR rfl rfl rfl) sym_keepR wrd_keepR), by dsimp only; omega⟩
   ·refine W0 ?_
    refine ⟨fun _ => ?_, fun h => absurd (nm h) he0⟩
    refine W0 ?_
    refine ⟨⟨by unfold inI64; omega⟩, ?_⟩
    refine W0 ?_
    refine W0 ?_
    exact ⟨_, _, .inr ⟨i, s, e, hlt, hI, hE, he0, rfl, _, _, _, rfl⟩, SubS.mkK [] rfl ⟨⟨_, rfl, .tup _ _ _ fun i hi => (match i, hi with | 0, _ => .same | 1, _ => .same)⟩, trivial⟩ (allAsRz rfl rfl rfl rfl rfl (as_keepR rfl rfl rfl) sym_keepR wrd_keepR)⟩
  ·exact hr.elim
 ·refine W0 ?_
  have he : i = L.length := by omega
  subst he
  exact ⟨_, _, .inl ⟨s, hI, rfl, rfl⟩, SubS.mkK [] rfl ⟨⟨_, rfl, .tup _ _ _ fun i hi => (match i, hi with | 0, _ => .same | 1, _ => .same)⟩, trivial⟩ (allAsz rfl rfl rfl rfl rfl (as_keep rfl rfl rfl) sym_keep wrd_keep)⟩
theorem erI {α : Type} {a e : Int} (h : (Except.error a : Except Int α) = .error e) (h0 : a ≠ 0) : e ≠ 0 := by
 injection h with h; rw [← h]; exact h0
theorem alone_er {s : St} {l : Line} {e : Int} (h : aloneF s l = .error e) : e ≠ 0 := by
 unfold aloneF at h
 split at h
 ·cases h
 ·split at h
  ·exact erI h (by decide)
  ·split at h
   ·exact erI h (by decide)
   ·cases h
theorem place_er {s : St} {l : Line} {n : Nat} {e : Int} (h : place s l n = .error e) : e ≠ 0 := by
 unfold place at h
 split at h
 ·exact erI h (by decide)
 ·split at h
  ·exact erI h (by decide)
  ·split at h
   ·exact erI h (by decide)
   ·cases h
theorem erase_er {s : St} {l : Line} {e : Int} (h : eraseF s l = .error e) : e ≠ 0 := by
 unfold eraseF at h
 split at h
 ·exact erI h (by decide)
 ·split at h
  ·exact erI h (by decide)
  ·cases h
theorem equals_er {s : St} {l : Line} {e : Int} (h : equalsF s l = .error e) : e ≠ 0 := by
 unfold equalsF at h
 split at h
 ·split at h
  ·exact erI h (by decide)
  ·cases h
 ·split at h
  ·exact erI h (by decide)
  ·split at h
   ·exact erI h (by decide)
   ·split at h
    ·exact erI h (by decide)
    ·cases h
theorem step_er {s : St} {l : Line} {e : Int} (h : stepF s l = .error e) : e ≠ 0 := by
 unfold stepF at h
 split at h
 ·exact erI h (by decide)
 split at h
 ·exact alone_er h
 split at h
 ·exact erI h (by decide)
 split at h
 ·exact erI h (by decide)
 split at h
 ·exact erI h (by decide)
 rw [doF_k] at h
 generalize opK l.op = k at h
 match k with
 | 0 => cases h
 | 1 => cases h
 | 2 => cases h
 | 3 => cases h
 | 4 => exact erase_er h
 | 5 => exact equals_er h
 | k + 6 => exact place_er h
def fstI (L : List Line) (i : Nat) (s : St) : Prop := Wf s ∧ passF L 0 st0 = passF (L.drop i) i s
theorem passF_cons (l : Line) (ls : List Line) (i : Nat) (s : St) : passF (l :: ls) i s = match stepF s l with | Except.error e => Except.error (i + 1, e) | Except.ok s1 => passF ls (i + 1) s1 := rfl
theorem fst_step {L : List Line} {i : Nat} {s s' : St} (hi : i < L.length) (h : fstI L i s) (hs : stepF s (L.getD i lz) = .ok s') : fstI L (i + 1) s' := by
 refine ⟨step_wf h.1 hs, ?_⟩
 rw [h.2, drop_getD (d := lz) hi]
 rw [passF_cons, hs]
theorem fst_err {L : List Line} {i : Nat} {s : St} {e : Int} (hi : i < L.length) (h : fstI L i s) (hs : stepF s (L.getD i lz) = .error e) : passF L 0 st0 = .error (i + 1, e) := by
 rw [h.2, drop_getD (d := lz) hi]
 rw [passF_cons, hs]
theorem fst_end {L : List Line} {s : St} (h : fstI L L.length s) : passF L 0 st0 = .ok s := by
 rw [h.2, List.drop_length]; rfl
theorem getD_mem {L : List Line} {i : Nat} (hi : i < L.length) : L.getD i lz ∈ L := by
 rw [List.getD_eq_getElem?_getD, List.getElem?_eq_getElem hi]; exact List.getElem_mem hi
theorem pass1 (L : List Line) (hL : L.length < 2 ^ 47) (hB : ∀ l ∈ L, LineB l) : HeapCallK Tryz.prog 36 [.pv (linesP L), procF 65] (asH (asOf st0) [] []) (fun r Hout => (∃ s', fstI L L.length s' ∧ r = tupV [i64 0, i64 0] ∧ Hout = asH (asOf s') s'.syms (w6 s'.used)) ∨ (∃ i s e, i < L.length ∧ fstI L i s ∧ stepF s (L.getD i lz) = .error e ∧ e ≠ 0 ∧ r = tupV [i64 ((i + 1 : Nat) : Int), i64 e] ∧ ∃ a l w, Hout = asH a l w)) (fun _ _ => False) :=
 f36 (σ := St) 65 L asOf St.syms (fun s => w6 s.used) (fstI L) (fun i s e => stepF s (L.getD i lz) = .error e) hL
  (fun i s hi hI => HeapCallK.imp (f65 s (L.getD i lz) hI.1 (hB _ (getD_mem hi))) (fun r Hout h => by
    rcases h with ⟨s1, h1, h2, h3⟩ | ⟨e, h1, h2, h3⟩
    ·exact .inl ⟨s1, fst_step hi hI h1, h2, h3⟩
    ·exact .inr ⟨e, h1, step_er h1, h2, h3⟩) fun _ _ h => h) st0 ⟨wf0, rfl⟩
theorem procV {H : Heap} {B : List Nat} {U : List (Nat × Nat)} {g : Nat} {f h : Nat → AV} (h0 : VLe H B U (f 0) (.ptr 100 0 44 0 0)) : VLe H B U (.func (.func g) 1 f 0 h) (procF g) :=
 .func _ _ _ _ _ _ _ (fun i hi => by
  have hi0 : i = 0 := Nat.lt_one_iff.mp hi
  subst hi0
  exact h0) (fun i hi => absurd hi (Nat.not_lt_zero i))
def begP (L : List Line) (r : AV) (Hout : List (Nat × AO)) : Prop :=
 (65536 < L.length ∧ r = tupV [.pv .nilP, i64 0, i64 4] ∧ Hout = []) ∨
 (L.length ≤ 65536 ∧ ∃ s, Wf s ∧ passF L 0 st0 = .ok s ∧ r = tupV [.ptr 100 0 44 0 0, i64 0, i64 0] ∧ Hout = asH (asOf s) s.syms (w6 s.used)) ∨
 (L.length ≤ 65536 ∧ ∃ i e a l w, passF L 0 st0 = .error (i, e) ∧ e ≠ 0 ∧ r = tupV [.ptr 100 0 44 0 0, i64 (i : Nat), i64 e] ∧ Hout = asH a l w)
set_option maxHeartbeats 2000000 in
theorem f34 (L : List Line) (hL : L.length < 2 ^ 47) (hB : ∀ l ∈ L, LineB l) : HeapCallK Tryz.prog 34 [.pv (linesP L)] [] (begP L) (fun _ _ => False) := by
 refine HeapCallK.body tab_ok (by kernel_rfl) Tryz.func34 rfl rfl rfl ?_
 refine pW ?_
 refine pW ?_
 refine tr (fun hc => ?_) fun hc => ?_
 ·refine W0 ?_
  exact ⟨_, _, .inl ⟨by omega, rfl, rfl⟩, SubS.mkK [] rfl ⟨⟨_, rfl, .tup _ _ _ fun i hi => (match i, hi with | 0, _ => .same | 1, _ => .same | 2, _ => .same)⟩, trivial⟩ trivial⟩
 ·refine awp_cut (fun _ : Unit => mkStK 22 [(0, .pv (linesP L)), (5, .ptr 100 0 44 0 0)] (asH (asOf st0) [] []) []) (fun _ => True) (fun K hK => ?_) (fun _ _ => ?_)
  ·refine awp_last tab_ok mixed ?_
   refine W0 ?_
   refine CallK.heapK f35 [] [] rfl rfl rfl trivial trivial 2000 rfl (fun r Hout hr => ?_) (fun r Hout hr => hr.elim)
   obtain ⟨rfl, rfl⟩ := hr
   refine W0 ?_
   exact hK _ () trivial (SubS.mkNK [] [(100, 2100), (101, 2101), (102, 2102), (103, 2103)] rfl rfl rfl ⟨⟨_, rfl, .same⟩, ⟨_, rfl, .pq rfl⟩, trivial⟩
    ⟨.inl ⟨_, _, rfl, rfl, rfl, asLe rfl rfl rfl rfl .same .same .same .same .same (.obj _ _ _ _ rfl rfl) (.obj _ _ _ _ rfl rfl) (.obj _ _ _ _ rfl rfl) fun _ _ => .same⟩, .inr (.inr ⟨_, _, rfl, rfl, rfl, ops_keepR⟩), .inr (.inr ⟨_, _, rfl, rfl, rfl, sym_keepR⟩), .inr (.inr ⟨_, _, rfl, rfl, rfl, wrd_keepR⟩), trivial⟩)
  ·refine pW ?_
   refine CallK.heapK (pass1 L hL hB) [] [(100, 100), (101, 101), (102, 102), (103, 103)] rfl rfl rfl ⟨.same, procV (f := getL [.ptr 100 0 44 0 0]) (.pq rfl), trivial⟩ (allAsz rfl rfl rfl rfl rfl (as_keep rfl rfl rfl) sym_keep wrd_keep) 3000 rfl (fun r Hout hr => ?_) (fun r Hout hr => hr.elim)
   rcases hr with ⟨s', hI, rfl, rfl⟩ | ⟨i, s', e, hi, hI, hs, he, rfl, a, l, w, rfl⟩
   ·refine W0 ?_
    refine awp_last tab_ok mixed ?_
    refine W0 ?_
    exact ⟨_, _, .inr (.inl ⟨by omega, s', hI.1, fst_end hI, rfl, rfl⟩), SubS.mkK [] rfl ⟨⟨_, rfl, .tup _ _ _ fun i hi => (match i, hi with | 0, _ => .pq rfl | 1, _ => .same | 2, _ => .same)⟩, trivial⟩ (allAsRz rfl rfl rfl rfl rfl (as_keepR rfl rfl rfl) sym_keepR wrd_keepR)⟩
   ·refine W0 ?_
    refine awp_last tab_ok mixed ?_
    refine W0 ?_
    exact ⟨_, _, .inr (.inr ⟨by omega, i + 1, e, a, l, w, fst_err hi hI hs, he, rfl, rfl⟩), SubS.mkK [] rfl ⟨⟨_, rfl, .tup _ _ _ fun i hi => (match i, hi with | 0, _ => .pq rfl | 1, _ => .same | 2, _ => .same)⟩, trivial⟩ (allAsRz rfl rfl rfl rfl rfl (as_keepR rfl rfl rfl) sym_keepR wrd_keepR)⟩
theorem bless : ∀ (a b : List UInt8), Op.bytesLess a b = decide (a < b)
 | [], [] => by simp [Op.bytesLess]
 | _ :: _, [] => by simp [Op.bytesLess]
 | [], _ :: _ => by simp [Op.bytesLess]
 | a :: x, b :: y => by
   unfold Op.bytesLess
   rw [bless x y]
   by_cases h : a < b
   ·simp [h, List.cons_lt_cons_iff]
   ·by_cases e : a = b
    ·subst e; simp
    ·simp [h, e, List.cons_lt_cons_iff]
theorem bgt {a b : List UInt8} (h1 : ¬ a < b) : (b < a ↔ (Op.bytesLess a b || a == b) = false) := by
 rw [bless, decide_eq_false h1, Bool.false_or]
 constructor
 ·intro h
  refine beq_eq_false_iff_ne.mpr fun e => ?_
  subst e; exact h1 h
 ·intro h
  refine Classical.byContradiction fun h2 => (beq_eq_false_iff_ne.mp h) ?_
  exact List.le_antisymm (List.not_lt.mp h2) (List.not_lt.mp h1)
def cmpS (a b : List UInt8) : Int := if a < b then -1 else if b < a then 1 else 0
end Go.Proofs.YtkeecnoafjhhdaaGreatDoor
namespace Go.Proofs
open Go.Shelf
def Tryz.sortSy_ren : Go.Shelf.Ren := ⟨fun | 6 => 71 | 15 => 75 | 14 => 121 | 28 => 131 | 29 => 132 | 20 => 152 | 21 => 153 | 22 => 154 | 23 => 155 | 24 => 156 | 25 => 157 | 26 => 158 | 27 => 159 | 46 => 182 | 47 => 161 | 48 => 162 | 49 => 183 | 50 => 184 | 57 => 196 | n => n, fun | 22 => 25 | 24 => 65 | 25 => 149 | 3 => 3 | 39 => 133 | 0 => 0 | 53 => 196 | 55 => 198 | 4 => 4 | 46 => 189 | 45 => 188 | 50 => 193 | 5 => 5 | 9 => 9 | 66 => 222 | 70 => 226 | 76 => 236 | 77 => 115 | n => n, fun | n => n⟩
theorem Tryz.sortSy : Go.Proofs.SlLaysF0.n6 Tryz.prog Tryz.sortSy_ren := {
 mixed := by kernel_rfl
 f6 := ⟨Tryz.f71.name, by decide, Tryz.func71.trans (congrArg some (by kernel_rfl))⟩
 f14 := ⟨Tryz.f121.name, by decide, Tryz.func121.trans (congrArg some (by kernel_rfl))⟩
 f15 := Tryz.func75.trans (congrArg some (by kernel_rfl))
 f20 := ⟨Tryz.f152.name, by decide, Tryz.func152.trans (congrArg some (by kernel_rfl))⟩
 f21 := ⟨Tryz.f153.name, by decide, Tryz.func153.trans (congrArg some (by kernel_rfl))⟩
 f22 := ⟨Tryz.f154.name, by decide, Tryz.func154.trans (congrArg some (by kernel_rfl))⟩
 f23 := ⟨Tryz.f155.name, by decide, Tryz.func155.trans (congrArg some (by kernel_rfl))⟩
 f24 := ⟨Tryz.f156.name, by decide, Tryz.func156.trans (congrArg some (by kernel_rfl))⟩
 f25 := ⟨Tryz.f157.name, by decide, Tryz.func157.trans (congrArg some (by kernel_rfl))⟩
 f26 := ⟨Tryz.f158.name, by decide, Tryz.func158.trans (congrArg some (by kernel_rfl))⟩
 f27 := ⟨Tryz.f159.name, by decide, Tryz.func159.trans (congrArg some (by kernel_rfl))⟩
 f28 := Tryz.func131.trans (congrArg some (by kernel_rfl))
 f29 := Tryz.func132.trans (congrArg some (by kernel_rfl))
 f46 := ⟨Tryz.f182.name, by decide, Tryz.func182.trans (congrArg some (by kernel_rfl))⟩
 f47 := Tryz.func161.trans (congrArg some (by kernel_rfl))
 f48 := Tryz.func162.trans (congrArg some (by kernel_rfl))
 f49 := ⟨Tryz.f183.name, by decide, Tryz.func183.trans (congrArg some (by kernel_rfl))⟩
 f50 := ⟨Tryz.f184.name, by decide, Tryz.func184.trans (congrArg some (by kernel_rfl))⟩
 f57 := ⟨Tryz.f196.name, by decide, Tryz.func196.trans (congrArg some (by kernel_rfl))⟩
 t0 := Tryz.underlying0
 a0 := Tryz.isAgg0
 z0 := Tryz.sizeOf0
 v0 := Tryz.zeroValue0
 t3 := Tryz.underlying3
 a3 := Tryz.isAgg3
 z3 := Tryz.sizeOf3
 v3 := Tryz.zeroValue3
 t4 := Tryz.underlying4
 a4 := Tryz.isAgg4
 z4 := Tryz.sizeOf4
 v4 := Tryz.zeroValue4
 t5 := Tryz.underlying5
 a5 := Tryz.isAgg5
 z5 := Tryz.sizeOf5
 v5 := Tryz.zeroValue5
 t9 := Tryz.underlying9
 a9 := Tryz.isAgg9
 z9 := Tryz.sizeOf9
 v9 := Tryz.zeroValue9
 t22 := Tryz.underlying25
 a22 := Tryz.isAgg25
 z22 := Tryz.sizeOf25
 v22 := Tryz.zeroValue25
 t25 := Tryz.underlying149
 a25 := Tryz.isAgg149
 z25 := Tryz.sizeOf149
 v25 := Tryz.zeroValue149
 t39 := Tryz.underlying133
 a39 := Tryz.isAgg133
 z39 := Tryz.sizeOf133
 v39 := Tryz.zeroValue133
 t45 := Tryz.underlying188
 a45 := Tryz.isAgg188
 z45 := Tryz.sizeOf188
 v45 := Tryz.zeroValue188
 t46 := Tryz.underlying189
 a46 := Tryz.isAgg189
 z46 := Tryz.sizeOf189
 v46 := Tryz.zeroValue189
 t50 := Tryz.underlying193
 a50 := Tryz.isAgg193
 z50 := Tryz.sizeOf193
 v50 := Tryz.zeroValue193
 t53 := Tryz.underlying196
 a53 := Tryz.isAgg196
 z53 := Tryz.sizeOf196
 v53 := Tryz.zeroValue196
 t55 := Tryz.underlying198
 a55 := Tryz.isAgg198
 z55 := Tryz.sizeOf198
 v55 := Tryz.zeroValue198
 t66 := Tryz.underlying222
 a66 := Tryz.isAgg222
 z66 := Tryz.sizeOf222
 v66 := Tryz.zeroValue222
 t70 := Tryz.underlying226
 a70 := Tryz.isAgg226
 z70 := Tryz.sizeOf226
 v70 := Tryz.zeroValue226
 t76 := Tryz.underlying236
 a76 := Tryz.isAgg236
 z76 := Tryz.sizeOf236
 v76 := Tryz.zeroValue236
 t77 := Tryz.underlying115
 a77 := Tryz.isAgg115
 z77 := Tryz.sizeOf115
 v77 := Tryz.zeroValue115 }
def Tryz.sortCl_ren : Go.Shelf.Ren := ⟨fun | 6 => 39 | 15 => 75 | 14 => 74 | 28 => 131 | 29 => 132 | 20 => 123 | 21 => 124 | 22 => 125 | 23 => 126 | 24 => 127 | 25 => 128 | 26 => 129 | 27 => 130 | 46 => 160 | 47 => 161 | 48 => 162 | 49 => 163 | 50 => 164 | 57 => 185 | n => n, fun | 22 => 24 | 24 => 55 | 25 => 105 | 3 => 3 | 39 => 133 | 0 => 0 | 53 => 196 | 55 => 198 | 4 => 4 | 46 => 189 | 45 => 188 | 50 => 193 | 5 => 5 | 9 => 9 | 66 => 222 | 70 => 226 | 76 => 236 | 77 => 115 | n => n, fun | n => n⟩
theorem Tryz.sortCl : Go.Proofs.SlLaysF0.n6 Tryz.prog Tryz.sortCl_ren := {
 mixed := by kernel_rfl
 f6 := ⟨Tryz.f39.name, by decide, Tryz.func39.trans (congrArg some (by kernel_rfl))⟩
 f14 := ⟨Tryz.f74.name, by decide, Tryz.func74.trans (congrArg some (by kernel_rfl))⟩
 f15 := Tryz.func75.trans (congrArg some (by kernel_rfl))
 f20 := ⟨Tryz.f123.name, by decide, Tryz.func123.trans (congrArg some (by kernel_rfl))⟩
 f21 := ⟨Tryz.f124.name, by decide, Tryz.func124.trans (congrArg some (by kernel_rfl))⟩
 f22 := ⟨Tryz.f125.name, by decide, Tryz.func125.trans (congrArg some (by kernel_rfl))⟩
 f23 := ⟨Tryz.f126.name, by decide, Tryz.func126.trans (congrArg some (by kernel_rfl))⟩
 f24 := ⟨Tryz.f127.name, by decide, Tryz.func127.trans (congrArg some (by kernel_rfl))⟩
 f25 := ⟨Tryz.f128.name, by decide, Tryz.func128.trans (congrArg some (by kernel_rfl))⟩
 f26 := ⟨Tryz.f129.name, by decide, Tryz.func129.trans (congrArg some (by kernel_rfl))⟩
 f27 := ⟨Tryz.f130.name, by decide, Tryz.func130.trans (congrArg some (by kernel_rfl))⟩
 f28 := Tryz.func131.trans (congrArg some (by kernel_rfl))
 f29 := Tryz.func132.trans (congrArg some (by kernel_rfl))
 f46 := ⟨Tryz.f160.name, by decide, Tryz.func160.trans (congrArg some (by kernel_rfl))⟩
 f47 := Tryz.func161.trans (congrArg some (by kernel_rfl))
 f48 := Tryz.func162.trans (congrArg some (by kernel_rfl))
 f49 := ⟨Tryz.f163.name, by decide, Tryz.func163.trans (congrArg some (by kernel_rfl))⟩
 f50 := ⟨Tryz.f164.name, by decide, Tryz.func164.trans (congrArg some (by kernel_rfl))⟩
 f57 := ⟨Tryz.f185.name, by decide, Tryz.func185.trans (congrArg some (by kernel_rfl))⟩
 t0 := Tryz.underlying0
 a0 := Tryz.isAgg0
 z0 := Tryz.sizeOf0
 v0 := Tryz.zeroValue0
 t3 := Tryz.underlying3
 a3 := Tryz.isAgg3
 z3 := Tryz.sizeOf3
 v3 := Tryz.zeroValue3
 t4 := Tryz.underlying4
 a4 := Tryz.isAgg4
 z4 := Tryz.sizeOf4
 v4 := Tryz.zeroValue4
 t5 := Tryz.underlying5
 a5 := Tryz.isAgg5
 z5 := Tryz.sizeOf5
 v5 := Tryz.zeroValue5
 t9 := Tryz.underlying9
 a9 := Tryz.isAgg9
 z9 := Tryz.sizeOf9
 v9 := Tryz.zeroValue9
 t22 := Tryz.underlying24
 a22 := Tryz.isAgg24
 z22 := Tryz.sizeOf24
 v22 := Tryz.zeroValue24
 t25 := Tryz.underlying105
 a25 := Tryz.isAgg105
 z25 := Tryz.sizeOf105
 v25 := Tryz.zeroValue105
 t39 := Tryz.underlying133
 a39 := Tryz.isAgg133
 z39 := Tryz.sizeOf133
 v39 := Tryz.zeroValue133
 t45 := Tryz.underlying188
 a45 := Tryz.isAgg188
 z45 := Tryz.sizeOf188
 v45 := Tryz.zeroValue188
 t46 := Tryz.underlying189
 a46 := Tryz.isAgg189
 z46 := Tryz.sizeOf189
 v46 := Tryz.zeroValue189
 t50 := Tryz.underlying193
 a50 := Tryz.isAgg193
 z50 := Tryz.sizeOf193
 v50 := Tryz.zeroValue193
 t53 := Tryz.underlying196
 a53 := Tryz.isAgg196
 z53 := Tryz.sizeOf196
 v53 := Tryz.zeroValue196
 t55 := Tryz.underlying198
 a55 := Tryz.isAgg198
 z55 := Tryz.sizeOf198
 v55 := Tryz.zeroValue198
 t66 := Tryz.underlying222
 a66 := Tryz.isAgg222
 z66 := Tryz.sizeOf222
 v66 := Tryz.zeroValue222
 t70 := Tryz.underlying226
 a70 := Tryz.isAgg226
 z70 := Tryz.sizeOf226
 v70 := Tryz.zeroValue226
 t76 := Tryz.underlying236
 a76 := Tryz.isAgg236
 z76 := Tryz.sizeOf236
 v76 := Tryz.zeroValue236
 t77 := Tryz.underlying115
 a77 := Tryz.isAgg115
 z77 := Tryz.sizeOf115
 v77 := Tryz.zeroValue115 }
def Tryz.cmpInt_ren : Go.Shelf.Ren := ⟨fun | 5 => 41 | 7 => 76 | n => n, fun | 22 => 3 | 3 => 3 | 4 => 4 | n => n, fun | n => n⟩
theorem Tryz.cmpInt : Go.Proofs.SlLaysC2.n5 Tryz.prog Tryz.cmpInt_ren := {
 mixed := by kernel_rfl
 f5 := ⟨Tryz.f41.name, by decide, Tryz.func41.trans (congrArg some (by kernel_rfl))⟩
 f7 := ⟨Tryz.f76.name, by decide, Tryz.func76.trans (congrArg some (by kernel_rfl))⟩
 t3 := Tryz.underlying3
 a3 := Tryz.isAgg3
 z3 := Tryz.sizeOf3
 v3 := Tryz.zeroValue3
 t4 := Tryz.underlying4
 a4 := Tryz.isAgg4
 z4 := Tryz.sizeOf4
 v4 := Tryz.zeroValue4
 t22 := Tryz.underlying3
 a22 := Tryz.isAgg3
 z22 := Tryz.sizeOf3
 v22 := Tryz.zeroValue3 }
end Go.Proofs
namespace Go.Proofs.YtkeecnoafjhhdaaGreatDoor
open Go Go.Proofs Go.Shelf Go.RowKit Go.Lib Go.Sort
set_option maxHeartbeats 1000000 in
theorem raw122 (b : ByteArray) (w : World) : Calls Tryz.prog 122 #[.string b] w fun e w' => e = .returned (.bool false) ∧ w' = w := by
 go_enter Tryz.func122, Tryz.ntmps122
 go_wp2
 go_ret
 exact ⟨by simp, rfl⟩
theorem bgt3 {a b : List UInt8} : (Op.bytesLess a b || a == b) = false ↔ b < a := by
 by_cases h1 : a < b
 ·constructor
  ·intro h; rw [bless, decide_eq_true h1] at h; cases h
  ·intro h; exact absurd h (List.lt_asymm h1)
 ·exact (bgt h1).symm
set_option maxHeartbeats 1000000 in
theorem raw73 (a b : List UInt8) (w : World) : Calls Tryz.prog 73 #[.string ⟨a.toArray⟩, .string ⟨b.toArray⟩] w fun e w' => e = .returned (.int .i64 (cmpS a b)) ∧ w' = w := by
 obtain ⟨hl, hg, hr⟩ : (∃ p, Op.bytesLess a b = p) ∧ (∃ q, (Op.bytesLess a b || a == b) = q) ∧ cmpS a b = if Op.bytesLess a b = true then -1 else if (Op.bytesLess a b || a == b) = false then 1 else 0 := by
  refine ⟨⟨_, rfl⟩, ⟨_, rfl⟩, ?_⟩
  have e1 : (Op.bytesLess a b = true) ↔ a < b := by rw [bless]; exact decide_eq_true_iff
  unfold cmpS
  simp only [e1, bgt3]
 rw [hr]
 go_enter Tryz.func73, Tryz.ntmps73
 go_wp2_with (go_at_call 122; refine (raw122 _ _).mono ?_; rintro e w' ⟨rfl, hw⟩; rw [hw])
 all_goals (go_ret; refine ⟨?_, rfl⟩)
 all_goals simp_all
def encSy (s : Sym) : List Value := [.string ⟨s.nm.toArray⟩, .int .u8 s.sp, .int .i64 s.ad]
def encCl (q : Nat × Nat) : List Value := [.int .i64 q.1, .int .u16 q.2]
set_option maxHeartbeats 1000000 in
theorem raw72 (x y : Sym) (W : World) : Calls Tryz.prog 72 #[.agg (encSy x).toArray, .agg (encSy y).toArray] W fun e w' => e = .returned (.int .i64 (cmpS x.nm y.nm)) ∧ ∃ q os', w' = grow (W.drewN q) os' := by
 have hcon := fun W' => raw73 x.nm y.nm W'
 generalize cmpS x.nm y.nm = r at hcon ⊢
 unfold encSy
 go_enter Tryz.func72, Tryz.ntmps72
 go_wp2_with (go_at_call 73; refine (hcon _).mono ?_; rintro e w' ⟨rfl, rfl⟩)
 go_ret
 exact ⟨rfl, 0, _, by rw [alloc_eq_grow, alloc_eq_grow, grow_grow]; rfl⟩
set_option maxHeartbeats 1000000 in
theorem raw40 (x y : Nat × Nat) (W : World) : Calls Tryz.prog 40 #[.agg (encCl x).toArray, .agg (encCl y).toArray] W fun e w' => e = .returned (.int .i64 (Lib.compareInt x.1 y.1)) ∧ ∃ q os', w' = grow (W.drewN q) os' := by
 have hcon := fun W' => AnyG.cmp_Compare_int Tryz.cmpInt x.1 y.1 W'
 change ∀ W', Calls Tryz.prog 41 _ _ _ at hcon
 generalize Lib.compareInt (x.1 : Int) y.1 = r at hcon ⊢
 unfold encCl
 go_enter Tryz.func40, Tryz.ntmps40
 go_wp2_with (go_at_call 41; refine (hcon _).mono ?_; rintro e w' ⟨rfl, rfl⟩)
 go_ret
 exact ⟨rfl, 0, _, by rw [alloc_eq_grow, alloc_eq_grow, grow_grow]; rfl⟩
end Go.Proofs.YtkeecnoafjhhdaaGreatDoor
namespace Go.Proofs.YtkeecnoafjhhdaaGreatDoor
open Go Go.Proofs Go.AM Go.RowKit
section
variable {α : Type} [Inhabited α]
theorem perm_in {d d' : Array α} (h : Sort.PermIn 0 d.size d d') : d'.toList.Perm d.toList ∧ d'.size = d.size := by
 obtain ⟨hsz, _, hperm⟩ := h
 have e1 : d'.extract 0 d.size = d' := by rw [← hsz]; exact Array.extract_size
 rw [e1, Array.extract_size] at hperm
 exact ⟨hperm, hsz⟩
theorem sort_in {lt : α → α → Bool} {d' : Array α} (h : Sort.SortedIn lt 0 d'.size d') : SrtB lt d'.toList := by
 unfold SrtB
 rw [List.pairwise_iff_getElem]
 intro i j hi hj hij
 have := h i j (Nat.zero_le _) hij (by simpa using hj)
 rw [getElem!_pos d' i (by simpa using hi), getElem!_pos d' j (by simpa using hj)] at this
 simpa using this
structure EncOK (enc : α → List Value) (sz : Nat) (c : α → Nat → PV) : Prop where
 len : ∀ x, (enc x).length = sz
 one : ∀ x, ∀ v ∈ enc x, v.oneCell' = true
 to : ∀ x j, j < sz → ∀ (w : World) (M : Blocks) v, Rp w M (c x j) v → v = (enc x)[j]!
 of : ∀ x j, j < sz → ∀ (w : World) (M : Blocks), Rp w M (c x j) ((enc x)[j]!)
theorem cell_of {w : World} {b : Nat} {arr : Array Value} {E : TypeId} {fz : Nat × Nat} (h : w.heap[b]? = some (.cells arr E fz)) {t : Nat} (ht : t < arr.size) : w.cell? ⟨b, t, none⟩ = some (arr.getD t undef) := by
 unfold World.cell?
 dsimp only
 rw [h]
 show arr[t]? = _
 rw [Array.getElem?_eq_getElem ht, Array.getD_eq_getD_getElem?, Array.getElem?_eq_getElem ht]; rfl
theorem froz_of {w : World} {b : Nat} {arr : Array Value} {E : TypeId} {fz : Nat × Nat} (h : w.heap[b]? = some (.cells arr E fz)) (hf : FzOk fz arr.size) {t : Nat} (ht : t < arr.size) : w.frozen? ⟨b, t, none⟩ = false := by
 have := hf.out t ht
 unfold World.frozen?
 dsimp only
 rw [h]
 obtain ⟨lo, hi⟩ := fz
 show (decide (lo ≤ t) && decide (t < hi)) = false
 rw [Bool.and_eq_false_iff]
 by_cases h1 : lo ≤ t
 ·right; exact decide_eq_false fun h2 => this ⟨h1, h2⟩
 ·left; exact decide_eq_false h1
theorem put_blk {w : World} {b : Nat} {arr : Array Value} {E : TypeId} {fz : Nat × Nat} (h : w.heap[b]? = some (.cells arr E fz)) (F : Array Value) : Sort.putRow id w b 0 F = putBlk w b (.cells (Sort.putCells id 0 F arr) E fz) := by
 have hb : b < w.heap.size := (Array.getElem?_eq_some_iff.mp h).1
 unfold Sort.putRow Sort.mapBlock putBlk
 congr 1
 apply Array.ext_getElem?
 intro i
 rw [Array.getElem?_modify, Array.getElem?_setIfInBounds]
 by_cases e : b = i
 ·subst e; rw [if_pos rfl, if_pos rfl, h, if_pos hb]; rfl
 ·rw [if_neg e, if_neg e]
theorem put_size (F arr : Array Value) : (Sort.putCells id 0 F arr).size = arr.size := by unfold Sort.putCells; simp
theorem put_get {F arr : Array Value} {t : Nat} (ht : t < F.size) (ha : t < arr.size) : (Sort.putCells id 0 F arr).getD t undef = F[t]! := by
 unfold Sort.putCells
 rw [Array.getD_eq_getD_getElem?, Array.getElem?_mapIdx, Array.getElem?_eq_getElem ha]
 simp [ht]
set_option maxHeartbeats 1000000 in
theorem callk_sortG {P : Program} {f g : Nat} {enc : α → List Value} {sz : Nat} {c : α → Nat → PV} {dd : α} {E : TypeId} {lt : α → α → Bool} (hz : 0 < sz) (he : EncOK enc sz c) (hen : enters P f = true)
  (hraw : ∀ (blk cap : Nat) (d : Array α) (w : World), Sort.HoldsK enc sz w blk 0 d → blk < w.heap.size → d.size < 4611686018427387904 → Calls P f #[.slice (some ⟨blk, 0, none⟩) d.size cap, .func (.func g) #[] #[]] w fun e w' =>
    e = .returned (.tuple #[]) ∧ ∃ d' n os, Sort.PermIn 0 d.size d d' ∧ Sort.SortedIn lt 0 d.size d' ∧ w' = sortWorldK enc sz w blk 0 n d' os)
  (hnone : ∀ p cap fv w, Calls P f #[.slice p 0 cap, fv] w fun e w' => e = .returned (.tuple #[]) ∧ w' = w)
  (asy : ∀ a b, lt a b = true → lt b a = false) (tr : ∀ a b c, lt a b = false → lt b c = false → lt a c = false)
  {H : Heap} {U : List Nat} {k kp : AV → Heap → List Nat → Prop} {id gg : Nat} {l : List α} (hH : H id = some (rowA E sz c dd gg l)) (hl : l.length < 2 ^ 40) (hd : ∀ a ∈ l, ∀ b ∈ l, lt a b = false → lt b a = false → a = b)
  (κ : k (tupV []) (updF H id (rowA E sz c dd gg (sortB lt l))) U) : CallK P f [.row id gg sz 0 l.length, .func (.func g) 0 (fun _ => .nilS) 0 fun _ => .nilS] H U k kp := by
 intro C φ M w xs henv hm ha
 refine ⟨hen, ?_⟩
 obtain ⟨hx1, hx2⟩ := ha
 have v0 := hx2 0 (by simp)
 have v1 := hx2 1 (by simp)
 obtain ⟨a, b, rfl⟩ : ∃ a b, xs = #[a, b] := ⟨xs.getD 0 undef, xs.getD 1 undef, by
  have hx : xs.size = 2 := hx1
  apply Array.ext
  ·simpa using hx
  ·intro i h1 h2
   have : i = 0 ∨ i = 1 := by simp at h2; omega
   rcases this with rfl | rfl <;> simp [Array.getD_eq_getD_getElem?, h1]⟩
 have v0 : Ra φ w M (.row id gg sz 0 l.length) a := v0
 have v1 : Ra φ w M (.func (.func g) 0 (fun _ => .nilS) 0 fun _ => .nilS) b := v1
 have hb : b = .func (.func g) #[] #[] := by
  cases v1 with
  | func _ _ _ _ _ xs ys h1 h2 _ _ => rw [Array.eq_empty_of_size_eq_zero h1, Array.eq_empty_of_size_eq_zero h2]
 subst hb
 have hret : ∀ (φ' : Names) (w' : World), Ra φ' w' M (tupV []) (.tuple #[]) := fun φ' w' => .tup _ _ _ rfl fun i hi => absurd hi (Nat.not_lt_zero i)
 by_cases hl0 : l.length = 0
 ·have hln : l = [] := List.eq_nil_of_length_eq_zero hl0
  obtain ⟨p, cap, rfl⟩ : ∃ p cap, a = .slice p 0 cap := by
   rw [hl0] at v0
   cases v0 with
   | row _ _ _ _ _ b c h1 h2 h3 => exact ⟨_, _, rfl⟩
   | row0 _ _ _ _ a => exact ⟨_, _, rfl⟩
  refine (hnone p cap _ w).mono fun e w' hq => ?_
  obtain ⟨rfl, rfl⟩ := hq
  have hup : updF H id (rowA E sz c dd gg (sortB lt l)) = H := by
   funext i
   show (bif Nat.beq i id then _ else _) = _
   by_cases e : i = id
   ·subst e; rw [Nat.beq_refl, hH, hln]; rfl
   ·rw [show Nat.beq i id = false by rw [← Bool.not_eq_true, Nat.beq_eq]; exact e]; rfl
  rw [hup] at κ
  exact ⟨φ, M, H, U, fun _ _ _ h => h, fun _ h => h, fun _ _ => rfl, fun _ => Nat.le_refl _, hm, tupV [], hret _ _, κ⟩
 ·obtain ⟨b, cap, hφ, hcap, rfl⟩ : ∃ b cap, φ id gg = some b ∧ l.length ≤ cap ∧ a = .slice (some ⟨b, 0, none⟩) l.length cap := by
   generalize hn : l.length = n at v0 hl0
   cases v0 with
   | row _ _ _ _ _ b c h1 h2 h3 => exact ⟨b, c, h1, h2, by rw [Nat.zero_mul]⟩
   | row0 _ _ _ _ a => exact absurd rfl hl0
  obtain ⟨b', arr, fz, h1, h2, h3, ⟨h4, h4'⟩, h5, h6, h7⟩ := (hm.heap.own id _ hH).resolve_left fun h => hl0 h.1
  have hbb : b' = b := Option.some.inj (h1.symm.trans hφ)
  subst hbb
  have h2 : w.heap[b']? = some (.cells arr E fz) := h2
  have h4' : l.length * sz ≤ arr.size := h4'
  have hblk : b' < w.heap.size := (Array.getElem?_eq_some_iff.mp h2).1
  have hsz : l.toArray.size = l.length := rfl
  have hcells : ∀ t, t < l.length * sz → arr.getD t undef = (enc (l.getD (t / sz) dd))[t % sz]! := fun t ht => by
   have hi : t / sz < l.length := Nat.div_lt_of_lt_mul (by rw [Nat.mul_comm]; exact ht)
   have hj : t % sz < sz := Nat.mod_lt _ hz
   have hr := h7 (t / sz) (t % sz) hi hj
   have e : t / sz * sz + t % sz = t := by rw [Nat.mul_comm]; exact Nat.div_add_mod t sz
   have hr : Ra φ w M (.pv (c (l.getD (t / sz) dd) (t % sz))) (arr.getD (t / sz * sz + t % sz) undef) := hr
   rw [e] at hr
   cases hr with
   | pv _ _ hp => exact he.to _ _ hj w M _ hp
  have hget : ∀ i, i < l.length → l.toArray[i]! = l.getD i dd := fun i hi => by
   rw [getElem!_pos l.toArray i (by simpa using hi), List.getD_eq_getElem?_getD, List.getElem?_eq_getElem hi]; rfl
  have hH0 : Sort.HoldsK enc sz w b' 0 l.toArray := by
   intro t ht
   have ht : t < l.length * sz := by simpa using ht
   rw [Nat.zero_add]
   refine ⟨?_, froz_of h2 h3 (by omega)⟩
   rw [cell_of h2 (by omega), hcells t ht]
   show _ = some ((Sort.flatK enc sz l.toArray)[t]!)
   rw [Sort.get_flatK _ _ _ _ (by simpa using ht), hget _ (Nat.div_lt_of_lt_mul (by rw [Nat.mul_comm]; exact ht))]
  refine (hraw b' cap l.toArray w hH0 hblk (by rw [hsz]; omega)).mono fun e w' hq => ?_
  obtain ⟨rfl, d', n, os, hp, hs, rfl⟩ := hq
  obtain ⟨hperm, hsize⟩ := perm_in hp
  have hsize : d'.size = l.length := hsize
  have hs := sort_in (by rw [hsize]; exact hs)
  have hsort : d'.toList = sortB lt l := sortB_uniq asy tr hperm hs hd
  rw [← hsort] at κ
  obtain ⟨F, hF⟩ : ∃ F, Sort.flatK enc sz d' = F := ⟨_, rfl⟩
  have hFs : F.size = l.length * sz := by rw [← hF, Sort.size_flatK, hsize]
  obtain ⟨arr', harr⟩ : ∃ arr', Sort.putCells _root_.id 0 F arr = arr' := ⟨_, rfl⟩
  have has : arr'.size = arr.size := by rw [← harr, put_size]
  have hdl : d'.toList.length = l.length := by rw [Array.length_toList, hsize]
  have hval : ∀ i j, i < l.length → j < sz → arr'.getD (i * sz + j) undef = (enc (d'.toList.getD i dd))[j]! := fun i j hi hj => by
   have hlt : i * sz + j < l.length * sz := Nat.lt_of_lt_of_le (by omega : i * sz + j < i * sz + sz) (by rw [← Nat.succ_mul]; exact Nat.mul_le_mul_right _ hi)
   rw [← harr, put_get (by omega) (by omega), ← hF, Sort.get_flatK _ _ _ _ (by rw [hsize]; exact hlt), Nat.mul_comm i sz, Nat.mul_add_div hz, Nat.div_eq_of_lt hj, Nat.mul_add_mod, Nat.mod_eq_of_lt hj, Nat.add_zero]
   rw [getElem!_pos d' i (by rw [hsize]; exact hi), List.getD_eq_getElem?_getD, List.getElem?_eq_getElem (by omega)]; rfl
  have hone : ∀ x j, j < sz → ((enc x)[j]!).oneCell' = true := fun x j hj => by
   rw [getElem!_pos (enc x) j (by rw [he.len]; exact hj)]
   exact he.one x _ (List.getElem_mem _)
  have hholds : AM.Holds φ { w with drawn := w.drawn + n } M (rowA E sz c dd gg d'.toList) arr' := by
   refine ⟨⟨h4, by show d'.toList.length * sz ≤ arr'.size; rw [hdl, has]; exact h4'⟩, fun i j hi hj => ?_, fun i j hi hj => ?_⟩
   ·have hi : i < l.length := hdl ▸ hi
    show (arr'.getD (i * sz + j) undef).oneCell' = true
    rw [hval i j hi hj]; exact hone _ _ hj
   ·have hi : i < l.length := hdl ▸ hi
    show Ra φ _ M (.pv (c (d'.toList.getD i dd) j)) (arr'.getD (i * sz + j) undef)
    rw [hval i j hi hj]
    exact .pv _ _ (he.of _ _ hj _ _)
  have hm2 := (hm.drawn (w.drawn + n)).upd (o' := rowA E sz c dd gg d'.toList) hH hφ h2 has rfl (.inl rfl) hholds
  have hw : sortWorldK enc sz w b' 0 n d' os = Sort.grow (putBlk { w with drawn := w.drawn + n } b' (.cells arr' E fz)) os := by
   show Sort.grow (Sort.putRow _root_.id (Sort.ahead w n) b' 0 (Sort.flatK enc sz d')) os = _
   rw [hF, put_blk (w := Sort.ahead w n) h2, harr]; rfl
  rw [hw]
  have hb2 : ∀ x, x < w.heap.size → x ≠ b' → (Sort.grow (putBlk { w with drawn := w.drawn + n } b' (.cells arr' E fz)) os).heap[x]? = w.heap[x]? := fun x hx hne => by
   show ((w.heap.setIfInBounds b' _) ++ os)[x]? = _
   rw [Array.getElem?_append_left (by simpa using hx), Array.getElem?_setIfInBounds, if_neg (fun e => hne e.symm)]
  have hb3 : (Sort.grow (putBlk { w with drawn := w.drawn + n } b' (.cells arr' E fz)) os).heap[b']? = some (.cells arr' E fz) := by
   show ((w.heap.setIfInBounds b' _) ++ os)[b']? = _
   rw [Array.getElem?_append_left (by simpa using hblk), Array.getElem?_setIfInBounds, if_pos rfl, if_pos hblk]
  have hm3 := hm2.stay (w' := Sort.grow (putBlk { w with drawn := w.drawn + n } b' (.cells arr' E fz)) os) [] rfl rfl rfl
   (by show (w.heap.setIfInBounds b' _).size ≤ ((w.heap.setIfInBounds b' _) ++ os).size; rw [Array.size_append]; exact Nat.le_add_right _ _)
   (fun x hx => by
     show ((w.heap.setIfInBounds b' _) ++ os)[x]? = (w.heap.setIfInBounds b' _)[x]?
     exact Array.getElem?_append_left hx) M (fun _ h => h) (fun _ h => .inl h)
  refine ⟨_, M, updF H id (rowA E sz c dd gg d'.toList), U, fun i k x hx => ?_, fun _ h => h, fun x hx => hb2 x (hm.heap.mlt x hx) (fun e => h5 (e ▸ hx)), fun x => ?_, hm3, tupV [], hret _ _, κ⟩
  ·simp only [nameIt]
   split
   ·rename_i hh
    obtain ⟨rfl, rfl⟩ := hh
    exact (hφ.symm.trans hx)
   ·exact hx
  ·by_cases hx : x < w.heap.size
   ·by_cases e : x = b'
    ·subst e
     unfold bsize
     rw [hb3, h2]
     exact Nat.le_of_eq has.symm
    ·unfold bsize
     rw [hb2 x hx e]
     exact Nat.le_refl _
   ·unfold bsize
    rw [Array.getElem?_eq_none (by omega)]
    exact Nat.zero_le _
end
def Sym.p (s : Sym) (j : Nat) : PV :=
 match j with
 | 0 => .str s.nm
 | 1 => .int .u8 s.sp
 | _ => .int .i64 s.ad
def cellP (q : Nat × Nat) (j : Nat) : PV :=
 match j with
 | 0 => .int .i64 q.1
 | _ => .int .u16 q.2
def fnv (n : Nat) : AV := .func (.func n) 0 (fun _ => .nilS) 0 fun _ => .nilS
instance : Inhabited Sym := ⟨sz0⟩
theorem encSy_ok : EncOK encSy 3 Sym.p where
 len _ := rfl
 one x v hv := by
  unfold encSy at hv
  simp only [List.mem_cons, List.not_mem_nil, or_false] at hv
  rcases hv with rfl | rfl | rfl <;> rfl
 to x j hj w M v h := by
  match j, hj with
  | 0, _ => cases h; rfl
  | 1, _ => cases h; rfl
  | 2, _ => cases h; rfl
 of x j hj w M := by
  match j, hj with
  | 0, _ => exact .str _
  | 1, _ => exact .int _ _
  | 2, _ => exact .int _ _
theorem encCl_ok : EncOK encCl 2 cellP where
 len _ := rfl
 one x v hv := by
  unfold encCl at hv
  simp only [List.mem_cons, List.not_mem_nil, or_false] at hv
  rcases hv with rfl | rfl <;> rfl
 to x j hj w M v h := by
  match j, hj with
  | 0, _ => cases h; rfl
  | 1, _ => cases h; rfl
 of x j hj w M := by
  match j, hj with
  | 0, _ => exact .int _ _
  | 1, _ => exact .int _ _
theorem lt_cmpS : (ltOf fun x y : Sym => cmpS x.nm y.nm) = ltS := by
 funext x y
 show decide (cmpS x.nm y.nm < 0) = decide (x.nm < y.nm)
 unfold cmpS
 by_cases h1 : x.nm < y.nm
 ·rw [if_pos h1]; simp [h1]
 ·rw [if_neg h1]
  by_cases h2 : y.nm < x.nm
  ·rw [if_pos h2]; simp [h1]
  ·rw [if_neg h2]; simp [h1]
theorem lt_cmpC : (ltOf fun x y : Nat × Nat => Lib.compareInt x.1 y.1) = ltC := by
 funext x y
 unfold ltOf ltC Lib.compareInt
 by_cases h1 : (x.1 : Int) < y.1
 ·have : x.1 < y.1 := by omega
  simp [this]
 ·have : ¬ x.1 < y.1 := by omega
  by_cases h2 : (y.1 : Int) < x.1 <;> simp [this, h1, h2]
theorem swoS : Sort.SWO (ltOf fun x y : Sym => cmpS x.nm y.nm) := by
 rw [lt_cmpS]
 refine ⟨fun x => ?_, fun x y z h1 h2 => ?_, fun x y z h1 h2 => ltS_tr x y z h1 h2⟩
 ·unfold ltS; exact decide_eq_false (List.lt_irrefl _)
 ·unfold ltS at *; exact decide_eq_true (List.lt_trans (of_decide_eq_true h1) (of_decide_eq_true h2))
theorem swoC : Sort.SWO (ltOf fun x y : Nat × Nat => Lib.compareInt x.1 y.1) := by
 rw [lt_cmpC]
 refine ⟨fun x => ?_, fun x y z h1 h2 => ?_, fun x y z h1 h2 => ltC_tr x y z h1 h2⟩
 ·unfold ltC; exact decide_eq_false (Nat.lt_irrefl _)
 ·unfold ltC at *
  have := of_decide_eq_true h1
  have := of_decide_eq_true h2
  exact decide_eq_true (by omega)
theorem rawSy (blk cap : Nat) (d : Array Sym) (w : World) (hH : Sort.HoldsK encSy 3 w blk 0 d) (hb : blk < w.heap.size) (hd : d.size < 4611686018427387904) : Calls Tryz.prog 71 #[.slice (some ⟨blk, 0, none⟩) d.size cap, .func (.func 72) #[] #[]] w fun e w' =>
  e = .returned (.tuple #[]) ∧ ∃ d' n os, Sort.PermIn 0 d.size d d' ∧ Sort.SortedIn ltS 0 d.size d' ∧ w' = sortWorldK encSy 3 w blk 0 n d' os := by
 have h := AnyQ.slices_SortFunc Tryz.sortSy 3 Tryz.isAgg65 Tryz.sizeOf65 encSy encSy_ok.len encSy_ok.one (fun x y => cmpS x.nm y.nm) swoS 72 #[] blk 0 cap d w (enters_of Tryz.func72 (by kernel_rfl) rfl) (fun _ _ _ _ x y => raw72 x y _) hH hb hd
 rw [lt_cmpS] at h
 exact h
theorem rawCl (blk cap : Nat) (d : Array (Nat × Nat)) (w : World) (hH : Sort.HoldsK encCl 2 w blk 0 d) (hb : blk < w.heap.size) (hd : d.size < 4611686018427387904) : Calls Tryz.prog 39 #[.slice (some ⟨blk, 0, none⟩) d.size cap, .func (.func 40) #[] #[]] w fun e w' =>
  e = .returned (.tuple #[]) ∧ ∃ d' n os, Sort.PermIn 0 d.size d d' ∧ Sort.SortedIn ltC 0 d.size d' ∧ w' = sortWorldK encCl 2 w blk 0 n d' os := by
 have h := AnyQ.slices_SortFunc Tryz.sortCl 2 Tryz.isAgg55 Tryz.sizeOf55 encCl encCl_ok.len encCl_ok.one (fun x y => Lib.compareInt x.1 y.1) swoC 40 #[] blk 0 cap d w (enters_of Tryz.func40 (by kernel_rfl) rfl) (fun _ _ _ _ x y => raw40 x y _) hH hb hd
 rw [lt_cmpC] at h
 exact h
theorem noneSy (p : Option Addr) (cap : Nat) (fv : Value) (w : World) : Calls Tryz.prog 71 #[.slice p 0 cap, fv] w fun e w' => e = .returned (.tuple #[]) ∧ w' = w := AnyF.slices_SortFunc_none Tryz.sortSy p cap fv w
theorem noneCl (p : Option Addr) (cap : Nat) (fv : Value) (w : World) : Calls Tryz.prog 39 #[.slice p 0 cap, fv] w fun e w' => e = .returned (.tuple #[]) ∧ w' = w := AnyF.slices_SortFunc_none Tryz.sortCl p cap fv w
theorem nod_sy : ∀ {l : List Sym}, NodupS l → ∀ a ∈ l, ∀ b ∈ l, ltS a b = false → ltS b a = false → a = b
 | [], _, a, ha, _, _, _, _ => absurd ha List.not_mem_nil
 | x :: l, h, a, ha, b, hb, h1, h2 => by
   have hn : a.nm = b.nm := by
    unfold ltS at h1 h2
    exact List.le_antisymm (List.not_lt.mp (of_decide_eq_false h2)) (List.not_lt.mp (of_decide_eq_false h1))
   unfold NodupS at h
   rw [List.map_cons, List.nodup_cons] at h
   rcases List.mem_cons.mp ha with ha | ha <;> rcases List.mem_cons.mp hb with hb | hb
   ·rw [ha, hb]
   ·exact absurd (List.mem_map.mpr ⟨b, hb, by rw [← hn, ha]⟩) h.1
   ·exact absurd (List.mem_map.mpr ⟨a, ha, by rw [hn, hb]⟩) h.1
   ·exact nod_sy (l := l) h.2 a ha b hb h1 h2
theorem nod_cl : ∀ {l : List (Nat × Nat)}, (l.map Prod.fst).Nodup → ∀ a ∈ l, ∀ b ∈ l, ltC a b = false → ltC b a = false → a = b
 | [], _, a, ha, _, _, _, _ => absurd ha List.not_mem_nil
 | x :: l, h, a, ha, b, hb, h1, h2 => by
   have hn : a.1 = b.1 := by
    unfold ltC at h1 h2
    have := of_decide_eq_false h1
    have := of_decide_eq_false h2
    omega
   rw [List.map_cons, List.nodup_cons] at h
   rcases List.mem_cons.mp ha with ha | ha <;> rcases List.mem_cons.mp hb with hb | hb
   ·rw [ha, hb]
   ·exact absurd (List.mem_map.mpr ⟨b, hb, by rw [← hn, ha]⟩) h.1
   ·exact absurd (List.mem_map.mpr ⟨a, ha, by rw [hn, hb]⟩) h.1
   ·exact nod_cl (l := l) h.2 a ha b hb h1 h2
theorem callk_sort71 {H : Heap} {U : List Nat} {k kp : AV → Heap → List Nat → Prop} {id g : Nat} {l : List Sym} (hH : H id = some (rowA 65 3 Sym.p sz0 g l)) (hl : l.length < 2 ^ 40) (hd : NodupS l) (κ : k (tupV []) (updF H id (rowA 65 3 Sym.p sz0 g (sortB ltS l))) U) : CallK Tryz.prog 71 [.row id g 3 0 l.length, fnv 72] H U k kp :=
 callk_sortG (by decide) encSy_ok (by kernel_rfl) rawSy noneSy ltS_asy ltS_tr hH hl (nod_sy hd) κ
theorem callk_sort39 {H : Heap} {U : List Nat} {k kp : AV → Heap → List Nat → Prop} {id g : Nat} {l : List (Nat × Nat)} (hH : H id = some (rowA 55 2 cellP (0, 0) g l)) (hl : l.length < 2 ^ 40) (hd : (l.map Prod.fst).Nodup) (κ : k (tupV []) (updF H id (rowA 55 2 cellP (0, 0) g (sortB ltC l))) U) : CallK Tryz.prog 39 [.row id g 2 0 l.length, fnv 40] H U k kp :=
 callk_sortG (by decide) encCl_ok (by kernel_rfl) rawCl noneCl ltC_asy ltC_tr hH hl (nod_cl hd) κ
end Go.Proofs.YtkeecnoafjhhdaaGreatDoor
namespace Go.Proofs.YtkeecnoafjhhdaaGreatDoor
open Go Go.AM
attribute [local irreducible] AWP CallK PureCall SubS HeapCallK
def itP (m gm E : Nat) (P : List Nat) : AO := ⟨E, 2, 0, 0, fun i j => match j with
 | 1 => .pv (.bool (P.any (Nat.beq i)))
 | _ => match i with
   | 0 => .obj m gm
   | 1 => (match P.head? with
     | none => .nilS
     | some k => .pv (.int .i64 k))
   | _ => .nilS⟩
theorem itLe {H : Heap} {B : List Nat} {U : List (Nat × Nat)} {o : AO} {m gm E : Nat} {P : List Nat} (e1 : o.E = E) (e2 : o.gen = 2) (e3 : o.sz = 0) (e4 : o.n = 0) (h1 : ∀ i, VLe H B U (o.f i 1) (.pv (.bool (P.any (Nat.beq i))))) (h0 : VLe H B U (o.f 0 0) (.obj m gm))
  (hl : VLe H B U (o.f 1 0) (match P.head? with | none => .nilS | some k => .pv (.int .i64 k))) (hr : ∀ i, VLe H B U (o.f (i + 2) 0) .nilS) : ObLe H B U o (itP m gm E P) :=
 ⟨e1.symm, e2.symm, e3, rfl, e4, rfl, fun i j _ hj => match j, hj with
   | 1, _ => h1 i
   | 0, _ => match i with
     | 0 => h0
     | 1 => hl
     | i + 2 => hr i⟩
theorem itP_keep {H : Heap} {B : List Nat} {U : List (Nat × Nat)} {m gm E : Nat} {P : List Nat} (h : lookL U m = some m) (hg : gm = 0 ∨ gm = 1) : ObLe H B U (itP m gm E P) (itP m gm E P) :=
 itLe rfl rfl rfl rfl (fun _ => .same) (by rcases hg with rfl | rfl <;> exact .obj _ _ _ _ h rfl) (by cases P with
  | nil => exact .nils
  | cons k P => exact .same) fun _ => .nils
theorem itP_see {H : Heap} {B : List Nat} {U : List (Nat × Nat)} {m gm E k : Nat} {P : List Nat} (h : lookL U m = some m) (hg : gm = 0 ∨ gm = 1) : ObLe H B U { itP m gm E P with f := seeIt (itP m gm E P).f k } (itP m gm E (k :: P)) := by
 refine itLe rfl rfl rfl rfl (fun i => ?_) (by rcases hg with rfl | rfl <;> exact .obj _ _ _ _ h rfl) .same fun _ => .nils
 show VLe H B U (seeIt (itP m gm E P).f k i 1) (.pv (.bool (Nat.beq i k || P.any (Nat.beq i))))
 unfold seeIt
 rw [Nat.beq_refl, Bool.true_and]
 cases Nat.beq i k with
 | true => exact .same
 | false =>
   show VLe H B U (bif Nat.beq i 1 && Nat.beq 1 0 then _ else _) _
   rw [show Nat.beq 1 0 = false from rfl, Bool.and_false]
   exact .same
def comeI (n : Nat) (P : List Nat) : Prop := P.Nodup ∧ ∀ j ∈ P, j < n
theorem come_all {α : Type} {l : List α} {d : α} {P : List Nat} (h : comeI l.length P) (hall : ∀ j, j < l.length → P.any (Nat.beq j) = true) : (P.reverse.map fun j => l.getD j d).Perm l := by
 have hp : P.reverse.Perm (List.range l.length) := by
  refine (List.reverse_perm P).trans ?_
  refine (List.perm_ext_iff_of_nodup h.1 List.nodup_range).mpr fun j => ?_
  rw [List.mem_range]
  refine ⟨h.2 j, fun hj => ?_⟩
  obtain ⟨k, hk, e⟩ := List.any_eq_true.mp (hall j hj)
  rw [Nat.eq_of_beq_eq_true e]; exact hk
 refine (hp.map _).trans (List.Perm.of_eq ?_)
 apply List.ext_getElem (by simp)
 intro i h1 h2
 simp only [List.getElem_map, List.getElem_range]
 rw [List.getD_eq_getElem?_getD, List.getElem?_eq_getElem h2]; rfl
theorem come_len {n : Nat} {P : List Nat} (h : comeI n P) : P.length ≤ n := by
 have h1 : P.length ≤ (List.range n).length := h.1.length_le_of_subset fun j hj => List.mem_range.mpr (h.2 j hj)
 simpa using h1
def outX {α : Type} (l : List α) (d : α) (P : List Nat) : List α := P.reverse.map fun j => l.getD j d
theorem outX_cons {α : Type} {l : List α} {d : α} {P : List Nat} {j : Nat} : outX l d (j :: P) = outX l d P ++ [l.getD j d] := by unfold outX; simp
theorem outX_len {α : Type} {l : List α} {d : α} {P : List Nat} : (outX l d P).length = P.length := by unfold outX; simp
theorem sym_f {l : List Sym} {i : Nat} (h : i < l.length) : (symO l).f i 0 = st (l.getD i sz0).nm ∧ (symO l).f i 1 = (l.getD i sz0).av := by
 have e : (l.map fun s => (st s.nm, s.av)).getD i (.nilS, .nilS) = (st (l.getD i sz0).nm, (l.getD i sz0).av) := by
  rw [List.getD_eq_getElem?_getD, List.getElem?_map, List.getD_eq_getElem?_getD, List.getElem?_eq_getElem h]; rfl
 exact ⟨by show ((l.map fun s => (st s.nm, s.av)).getD i (.nilS, .nilS)).1 = _; rw [e], by show ((l.map fun s => (st s.nm, s.av)).getD i (.nilS, .nilS)).2 = _; rw [e]⟩
theorem sym_dist {l : List Sym} (h : NodupS l) {a b : Sym} (ha : a ∈ l) (hb : b ∈ l) (e : a.nm = b.nm) : a = b := by
 have h1 := find_uniq h ha rfl
 have h2 := find_uniq h hb e.symm
 exact Option.some.inj (h1.symm.trans h2)
theorem sortS_perm {l m : List Sym} (hp : m.Perm l) (h : NodupS l) : sortB ltS m = sortB ltS l :=
 sortB_uniq ltS_asy ltS_tr ((sortB_perm ltS m).trans hp) (sortB_sorted ltS_asy ltS_tr m) fun a ha b hb h1 h2 => by
  unfold ltS at h1 h2
  exact sym_dist h ha hb (List.le_antisymm (List.not_lt.mp (of_decide_eq_false h2)) (List.not_lt.mp (of_decide_eq_false h1)))
theorem nodupS_perm {l m : List Sym} (hp : m.Perm l) (h : NodupS l) : NodupS m := (hp.map Sym.nm).nodup_iff.mpr h
set_option maxHeartbeats 2000000 in
theorem f38 (l : List Sym) (hl : l.length < 2 ^ 40) (hd : NodupS l) : HeapCallK Tryz.prog 38 [.obj 102 1] [(102, symO l)] (fun r Hout => ∃ g, r = .row 200 g 3 0 l.length ∧ Hout = [(102, symO l), (200, rowA 65 3 Sym.p sz0 g (sortB ltS l))]) (fun _ _ => False) := by
 refine HeapCallK.body tab_ok (by kernel_rfl) Tryz.func38 rfl rfl rfl ?_
 refine pW ?_
 refine pW ?_
 refine awp_cut (fun P : List Nat × Nat => mkStK 19 [(3, .row 1000 P.2 3 0 (outX l sz0 P.1).length)] [(102, symO l), (1000, rowA 65 3 Sym.p sz0 P.2 (outX l sz0 P.1))] [102]) (fun P => (outX l sz0 P.1).Perm l ∧ P.1.length = l.length) (fun K hK => ?_) (fun P hP => ?_)
 ·refine pW ?_
  refine awp_block (awp_loopI (fun x : List Nat × Nat => comeI l.length x.1) (fun x => mkStK 19 [(3, .row 1000 x.2 3 0 (outX l sz0 x.1).length), (7, .obj 7 2)] [(102, symO l), (1000, rowA 65 3 Sym.p sz0 x.2 (outX l sz0 x.1)), (7, itP 102 1 l.length x.1)] [102]) (fun x => l.length - x.1.length) ([], 0) ⟨List.nodup_nil, fun _ h => absurd h List.not_mem_nil⟩ ?_ ?_)
  ·exact SubS.mkK [] rfl ⟨⟨_, rfl, .void _ _ _⟩, ⟨_, rfl, .obj _ _ _ _ rfl rfl⟩, trivial⟩ ⟨.inr (.inr ⟨_, _, rfl, rfl, rfl, sym_keep⟩), .inr (.inl ⟨rfl, rfl⟩), .inr (.inr ⟨_, _, rfl, rfl, rfl, itLe (List.length_map ..) rfl rfl rfl (fun _ => .same) (.obj _ _ _ _ rfl rfl) .nils fun _ => .nils⟩), trivial⟩
  ·rintro ⟨P, g⟩ hP
   dsimp only at hP ⊢
   have hPl := come_len hP
   refine pW ?_
   refine ⟨List.length_map .., fun j hj hsj => ?_, fun hall => ?_⟩
   ·have hjl : j < l.length := hj
    have hs0 : P.any (Nat.beq j) = false := by
     have h1 : (itP 102 1 l.length P).f j 1 = .pv (.bool (P.any (Nat.beq j))) := rfl
     have h2 : AV.pv (.bool (P.any (Nat.beq j))) = .pv (.bool false) := h1.symm.trans hsj
     exact PV.bool.inj (AV.pv.inj h2)
    have hjP : j ∉ P := fun h => by
     rw [List.any_eq_false] at hs0
     exact hs0 j h (Nat.beq_refl j)
    refine W0 ?_
    refine pW ?_
    refine awp_block ?_
    refine awp_pieceM tab_ok mixed (mkStK 19 [(3, .row 1000 g 3 0 (outX l sz0 P).length), (5, .ptr 5 0 3 0 0), (7, .obj 7 2)] [(102, symO l), (1000, rowA 65 3 Sym.p sz0 g (outX l sz0 P)), (7, itP 102 1 l.length (j :: P)), (5, symB (l.getD j sz0))] [102]) True (fun K2 hK2 => ?_) (fun _ => ?_)
    ·refine W0 ?_
     refine ⟨⟨List.length_map .., Int.natCast_nonneg _, by show (j : Int) < (((l.map fun s => (st s.nm, s.av)).length : Nat) : Int); rw [List.length_map]; omega⟩, ?_⟩
     refine W0 ?_
     rw [Int.toNat_natCast]
     have e1 : pairF ((symO l).f j 0) ((symO l).f j 1) 1 = (l.getD j sz0).av := (sym_f hjl).2
     rw [e1]
     refine W0 ?_
     exact hK2 _ trivial (SubS.mkK [] rfl ⟨⟨_, rfl, .rq rfl⟩, ⟨_, rfl, .pq rfl⟩, ⟨_, rfl, .obj _ _ _ _ rfl rfl⟩, trivial⟩ ⟨.inr (.inr ⟨_, _, rfl, rfl, rfl, sym_keep⟩), .inl ⟨_, _, rfl, rfl, rfl, .keepA⟩, .inr (.inr ⟨_, _, rfl, rfl, rfl, itP_see rfl (.inr rfl)⟩), .inl ⟨_, _, rfl, rfl, rfl, symB_le rfl rfl rfl rfl .same .same .same⟩, trivial⟩)
    refine awp_last tab_ok mixed ?_
    refine W0 ?_
    refine ⟨⟨⟨rfl, rfl, rfl, nle rfl⟩, rfl, rfl, rfl, rfl, rfl, rfl, by show ((outX l sz0 P).length + 1) * 32 ≤ 140737488355328; rw [outX_len]; omega⟩, ?_⟩
    refine W0 ?_
    have hPn : comeI l.length (j :: P) := ⟨List.nodup_cons.mpr ⟨hjP, hP.1⟩, fun k hk => by rcases List.mem_cons.mp hk with rfl | hk; exact hjl; exact hP.2 k hk⟩
    have hPm := come_len hPn
    rw [List.length_cons] at hPm
    refine ⟨(j :: P, g + 1), hPn, SubS.mkK [] rfl ⟨⟨_, rfl, .row _ _ _ _ _ _ _ _ _ rfl rfl rfl (by rw [outX_len, outX_len]; rfl)⟩, ⟨_, rfl, .obj _ _ _ _ rfl rfl⟩, trivial⟩ ⟨.inr (.inr ⟨_, _, rfl, rfl, rfl, sym_keep⟩), .inl ⟨_, _, rfl, rfl, rfl, ?_⟩, .inr (.inr ⟨_, _, rfl, rfl, rfl, itP_keep rfl (.inr rfl)⟩), trivial⟩, by dsimp only; rw [List.length_cons]; omega⟩
    rw [outX_cons]
    refine OLe.snocA rfl rfl rfl rfl rfl fun k hk => ?_
    match k, hk with
    | 0, _ => exact .same
    | 1, _ => exact .same
    | 2, _ => exact .same
   ·have hall' : ∀ j, j < l.length → P.any (Nat.beq j) = true := fun j hj => by
     have h2 : AV.pv (.bool (P.any (Nat.beq j))) = .pv (.bool true) := hall j hj
     exact PV.bool.inj (AV.pv.inj h2)
    have hperm := come_all (d := sz0) hP hall'
    refine W0 ?_
    refine pW ?_
    exact hK _ (P, g) ⟨hperm, by rw [← outX_len (l := l) (d := sz0)]; exact hperm.length_eq⟩ (SubS.mkK [] rfl ⟨⟨_, rfl, .rq rfl⟩, trivial⟩ ⟨.inr (.inr ⟨_, _, rfl, rfl, rfl, sym_keep⟩), .inl ⟨_, _, rfl, rfl, rfl, .keepA⟩, trivial⟩)
 ·have hnd := nodupS_perm hP.1 hd
  have hlen : (outX l sz0 P.1).length = l.length := hP.1.length_eq
  have hso := sortS_perm hP.1 hd
  refine pW ?_
  refine callk_sort71 (l := outX l sz0 P.1) rfl (by rw [hlen]; exact hl) hnd ?_
  rw [hso]
  refine W0 ?_
  refine awp_last tab_ok mixed ?_
  refine W0 ?_
  exact ⟨_, _, ⟨P.2, rfl, rfl⟩, SubS.mkNK [] [(102, 102), (200, 1000)] rfl rfl rfl ⟨⟨_, rfl, .row _ _ _ _ _ _ _ _ _ rfl rfl rfl hlen⟩, trivial⟩ ⟨.inr (.inr ⟨_, _, rfl, rfl, rfl, sym_keep⟩), .inl ⟨_, _, rfl, rfl, rfl, .keepA⟩, trivial⟩⟩
theorem def_len {s s1 : St} {sn : List UInt8} {sp : Nat} {ad : Int} (h : defS s sn sp ad = some s1) : s1.syms.length ≤ s.syms.length + 1 := by
 rw [defS_L] at h
 cases hl : defL s.syms sn sp ad with
 | none => rw [hl] at h; cases h
 | some sy =>
   rw [hl] at h; rw [← Option.some.inj h]
   unfold defL at hl
   split at hl
   ·rw [← Option.some.inj hl]; dsimp only; omega
   ·split at hl
    ·cases hl
    ·rw [← Option.some.inj hl]; simp
theorem step_len {s s1 : St} {l : Line} (h : stepF s l = .ok s1) : s1.syms.length ≤ s.syms.length + 1 := by
 rcases step_inv h with ⟨_, _, h⟩ | ⟨ha, h⟩
 ·unfold aloneF at h
  split at h
  ·rw [← Except.ok.inj h]; omega
  ·split at h
   ·cases h
   ·split at h
    ·cases h
    ·rename_i h2; rw [← Except.ok.inj h]; exact def_len h2
 ·rw [doF_k] at h
  generalize opK l.op = k at h
  match k with
  | 0 => rw [← Except.ok.inj h]; show s.syms.length ≤ _; omega
  | 1 => rw [← Except.ok.inj h]; show s.syms.length ≤ _; omega
  | 2 => rw [← Except.ok.inj h]; show s.syms.length ≤ _; omega
  | 3 => rw [← Except.ok.inj h]; show s.syms.length ≤ _; omega
  | 4 =>
    have h : eraseF s l = .ok s1 := h
    unfold eraseF at h
    split at h
    ·cases h
    ·split at h
     ·cases h
     ·rename_i h2; rw [← Except.ok.inj h]; exact (def_len h2 :)
  | 5 =>
    have h : equalsF s l = .ok s1 := h
    unfold equalsF at h
    split at h
    ·split at h
     ·cases h
     ·rename_i h2; rw [← Except.ok.inj h]; exact def_len h2
    ·split at h
     ·cases h
     ·split at h
      ·cases h
      ·split at h
       ·cases h
       ·rename_i h2; rw [← Except.ok.inj h]; exact def_len h2
  | k + 6 =>
    have h : place s l (cntK (k + 6) l.op s.mark) = .ok s1 := h
    obtain ⟨_, ⟨sy, hd, rfl⟩, _⟩ := place_ok h
    have : defS s l.lab 2 s.adr = some { s with syms := sy } := by rw [defS_L, hd]; rfl
    exact (def_len this :)
theorem pass_len : ∀ (L : List Line) (i : Nat) (s s1 : St), passF L i s = .ok s1 → s1.syms.length ≤ s.syms.length + L.length
 | [], i, s, s1, h => by rw [← Except.ok.inj h]; simp
 | l :: L, i, s, s1, h => by
   rw [passF_cons] at h
   cases hs : stepF s l with
   | error e => rw [hs] at h; cases h
   | ok s2 =>
     rw [hs] at h
     have h1 := step_len hs
     have h2 := pass_len L (i + 1) s2 s1 h
     rw [List.length_cons]; omega
def symsP (l : List Sym) : PV := sqA 65 3 Sym.p sz0 l
def symT (x : List Sym × Int × Int) : AV := tupV [.pv (symsP x.1), i64 x.2.1, i64 x.2.2]
set_option maxHeartbeats 2000000 in
theorem f21 (L : List Line) (hL : L.length < 2 ^ 47) (hB : ∀ l ∈ L, LineB l) : PureCall Tryz.prog 21 [.pv (linesP L)] (symT (symbolsR L)) := by
 refine pR (by kernel_rfl) Tryz.func21 rfl rfl rfl ?_
 refine CallK.heapK (f34 L hL hB) [] [] rfl rfl rfl ⟨.same, trivial⟩ trivial 2000 rfl (fun r Hout hr => ?_) (fun r Hout hr => hr.elim)
 rcases hr with ⟨hlen, rfl, rfl⟩ | ⟨hlen, s, hw, hp, rfl, rfl⟩ | ⟨hlen, i, e, a, l, w, hp, he, rfl, rfl⟩
 ·have e : symbolsR L = ([], 0, 4) := by unfold symbolsR; rw [if_pos hlen]
  rw [e]
  refine W0 ?_
  refine ⟨fun _ => ?_, fun h => absurd (nm h) (by decide)⟩
  refine W0 ?_
  exact done_tup [.pv (symsP []), i64 0, i64 4] [] rfl ⟨VLe.nilA, .same, .same, trivial⟩
 ·have e : symbolsR L = (sortB ltS s.syms, 0, 0) := by unfold symbolsR; rw [if_neg (by omega), hp]
  have hsl := pass_len L 0 st0 s hp
  have hs0 : st0.syms.length = 0 := rfl
  rw [e]
  refine W0 ?_
  refine ⟨fun h => absurd rfl (nm h), fun _ => ?_⟩
  refine W0 ?_
  refine CallK.heapK (f38 s.syms (by omega) hw.nd) [] [(102, 2102)] rfl rfl rfl ⟨.obj _ _ _ _ rfl rfl, trivial⟩ ⟨.inr (.inr ⟨_, _, rfl, rfl, rfl, sym_keepR⟩), trivial⟩ 3000 rfl (fun r Hout hr => ?_) (fun r Hout hr => hr.elim)
  obtain ⟨g, rfl, rfl⟩ := hr
  refine W0 ?_
  exact done_tup [.pv (symsP (sortB ltS s.syms)), i64 0, i64 0] [3200] rfl ⟨VLe.frzA (g := g) (L := sortB ltS s.syms) rfl rfl ((sortB_perm ltS s.syms).length_eq.symm), .same, .same, trivial⟩
 ·have e' : symbolsR L = ([], (i : Int), e) := by unfold symbolsR; rw [if_neg (by omega), hp]
  rw [e']
  refine W0 ?_
  refine ⟨fun _ => ?_, fun h => absurd (nm h) he⟩
  refine W0 ?_
  exact done_tup [.pv (symsP []), i64 i, i64 e] [] rfl ⟨VLe.nilA, .same, .same, trivial⟩
theorem alone_used {s s1 : St} {l : Line} (h : aloneF s l = .ok s1) : s1.used = s.used := by
 unfold aloneF at h
 split at h
 ·rw [← Except.ok.inj h]
 ·split at h
  ·cases h
  ·split at h
   ·cases h
   ·rename_i h2
    rw [defS_L] at h2
    cases hl : defL s.syms l.lab 2 s.adr with
    | none => rw [hl] at h2; cases h2
    | some sy => rw [hl] at h2; rw [← Except.ok.inj h, ← Option.some.inj h2]
theorem step_none {s s1 : St} {l : Line} (h : stepF s l = .ok s1) (hp : putsB l = false) : s1.used = s.used := by
 rcases step_inv h with ⟨_, _, h⟩ | ⟨ha, h⟩
 ·exact alone_used h
 ·refine doF_used ?_ h
  unfold putsB at hp
  rw [decide_eq_true ha.op, Bool.true_and] at hp
  have := of_decide_eq_false hp
  omega
theorem step_puts {s s1 : St} {l : Line} (h : stepF s l = .ok s1) (hp : putsB l = true) : (cntK (opK l.op) l.op s.mark = 1 ∨ cntK (opK l.op) l.op s.mark = 2) ∧ s1.used = s.used ++ newA s (cntK (opK l.op) l.op s.mark) := by
 unfold putsB at hp
 rw [Bool.and_eq_true] at hp
 have h6 : 6 ≤ opK l.op := of_decide_eq_true hp.2
 refine ⟨cnt_pos h6, ?_⟩
 rcases step_inv h with ⟨_, ho, _⟩ | ⟨ha, h⟩
 ·exact absurd ho (of_decide_eq_true hp.1)
 ·rw [doF_k] at h
  generalize opK l.op = k at *
  match k, h6 with
  | k + 6, _ =>
    have h : place s l (cntK (k + 6) l.op s.mark) = .ok s1 := h
    obtain ⟨_, ⟨sy, hd, rfl⟩, _⟩ := place_ok h
    rfl
theorem step_used {s s1 : St} {l : Line} (h : stepF s l = .ok s1) : ∃ r, s1.used = s.used ++ r := by
 cases hp : putsB l with
 | true => exact ⟨_, (step_puts h hp).2⟩
 | false => exact ⟨[], by rw [step_none h hp, List.append_nil]⟩
theorem pass_used : ∀ (L : List Line) (i : Nat) (s s1 : St), passF L i s = .ok s1 → ∃ r, s1.used = s.used ++ r
 | [], i, s, s1, h => ⟨[], by rw [← Except.ok.inj h, List.append_nil]⟩
 | l :: L, i, s, s1, h => by
   rw [passF_cons] at h
   cases hs : stepF s l with
   | error e => rw [hs] at h; cases h
   | ok s2 =>
     rw [hs] at h
     obtain ⟨r1, h1⟩ := step_used hs
     obtain ⟨r2, h2⟩ := pass_used L (i + 1) s2 s1 h
     exact ⟨r1 ++ r2, by rw [h2, h1, List.append_assoc]⟩
theorem pass_wf : ∀ (L : List Line) (i : Nat) (s s1 : St), Wf s → passF L i s = .ok s1 → Wf s1
 | [], i, s, s1, hw, h => by rw [← Except.ok.inj h]; exact hw
 | l :: L, i, s, s1, hw, h => by
   rw [passF_cons] at h
   cases hs : stepF s l with
   | error e => rw [hs] at h; cases h
   | ok s2 => rw [hs] at h; exact pass_wf L (i + 1) s2 s1 (step_wf hw hs) h
structure S2 where
 s : St
 acc : List (Nat × Nat)
 e : Int
def S2.w (sF : St) (x : S2) : List (Nat × Nat) := x.acc ++ w6 (sF.used.drop x.s.used.length)
def sndI (L : List Line) (sF : St) (i : Nat) (x : S2) : Prop :=
 Wf x.s ∧ passF (L.drop i) i x.s = .ok sF ∧ cellsF sF.syms L 0 st0 [] = cellsF sF.syms (L.drop i) i x.s x.acc ∧ x.acc.map Prod.fst = x.s.used
theorem snd_used {L : List Line} {sF : St} {i : Nat} {x : S2} (h : sndI L sF i x) : sF.used = x.s.used ++ sF.used.drop x.s.used.length := by
 obtain ⟨r, hr⟩ := pass_used _ _ _ _ h.2.1
 rw [hr, List.drop_left]
theorem w6_fst (u : List Nat) : (w6 u).map Prod.fst = u := by unfold w6; rw [List.map_map]; exact List.map_id u
theorem snd_keys {L : List Line} {sF : St} {i : Nat} {x : S2} (h : sndI L sF i x) : (x.w sF).map Prod.fst = sF.used := by
 unfold S2.w
 rw [List.map_append, h.2.2.2, w6_fst, ← snd_used h]
theorem cellsF_cons (sy : List Sym) (l : Line) (ls : List Line) (i : Nat) (s : St) (acc : List (Nat × Nat)) : cellsF sy (l :: ls) i s acc = (if putsB l then
   (if (wordF s sy l).2 ≠ 0 then .error (i + 1, (wordF s sy l).2)
    else match stepF s l with
     | .error e => .error (i + 1, e)
     | .ok s1 => cellsF sy ls (i + 1) s1 (acc ++ cellF s (cntK (opK l.op) l.op s.mark) (wordF s sy l).1))
  else match stepF s l with
   | .error e => .error (i + 1, e)
   | .ok s1 => cellsF sy ls (i + 1) s1 acc) := rfl
theorem snd_line {L : List Line} {sF : St} {i : Nat} {x : S2} (hi : i < L.length) (h : sndI L sF i x) : ∃ s1, stepF x.s (L.getD i lz) = .ok s1 ∧ passF (L.drop (i + 1)) (i + 1) s1 = .ok sF := by
 have hp := h.2.1
 rw [drop_getD (d := lz) hi, passF_cons] at hp
 cases hs : stepF x.s (L.getD i lz) with
 | error e => rw [hs] at hp; cases hp
 | ok s1 => rw [hs] at hp; exact ⟨s1, rfl, hp⟩
theorem snd_err {L : List Line} {sF : St} {i : Nat} {x : S2} (hi : i < L.length) (h : sndI L sF i x) (hp : putsB (L.getD i lz) = true) (he : (wordF x.s sF.syms (L.getD i lz)).2 ≠ 0) : cellsF sF.syms L 0 st0 [] = .error (i + 1, (wordF x.s sF.syms (L.getD i lz)).2) := by
 rw [h.2.2.1, drop_getD (d := lz) hi, cellsF_cons, hp, if_pos rfl, if_pos he]
theorem snd_puts {L : List Line} {sF s1 : St} {i : Nat} {x : S2} {e : Int} (hi : i < L.length) (h : sndI L sF i x) (hs : stepF x.s (L.getD i lz) = .ok s1) (hp : putsB (L.getD i lz) = true) (h0 : (wordF x.s sF.syms (L.getD i lz)).2 = 0) :
  ∃ y : S2, sndI L sF (i + 1) y ∧ y.s = s1 ∧ y.e = e ∧ y.w sF = updW (x.w sF) (x.s.adr + (cntK (opK (L.getD i lz).op) (L.getD i lz).op x.s.mark - 1)) (wordF x.s sF.syms (L.getD i lz)).1 := by
 obtain ⟨s1', hs1, hp1⟩ := snd_line hi h
 obtain rfl : s1' = s1 := Except.ok.inj (hs1.symm.trans hs)
 obtain ⟨hn, hu⟩ := step_puts hs hp
 have hU := snd_used h
 obtain ⟨r, hr⟩ := pass_used _ _ _ _ hp1
 have hd : sF.used.drop x.s.used.length = newA x.s (cntK (opK (L.getD i lz).op) (L.getD i lz).op x.s.mark) ++ r := by rw [hr, hu, List.append_assoc, List.drop_left]
 have hd1 : sF.used.drop s1'.used.length = r := by rw [hr, List.drop_left]
 have hnd : sF.used.Nodup := (pass_wf _ _ _ _ h.1 h.2.1).nu
 rw [hU, hd] at hnd
 refine ⟨⟨s1', x.acc ++ cellF x.s (cntK (opK (L.getD i lz).op) (L.getD i lz).op x.s.mark) (wordF x.s sF.syms (L.getD i lz)).1, e⟩, ⟨step_wf h.1 hs, hp1, ?_, ?_⟩, rfl, rfl, ?_⟩
 ·rw [h.2.2.1, drop_getD (d := lz) hi, cellsF_cons, hp, if_pos rfl, if_neg (fun hh => hh h0), hs]
 ·show (x.acc ++ _).map Prod.fst = s1'.used
  rw [List.map_append, h.2.2.2, cell_keys hn, hu]
 ·show (x.acc ++ _) ++ w6 (sF.used.drop s1'.used.length) = updW (x.acc ++ w6 (sF.used.drop x.s.used.length)) _ _
  rw [hd1, hd]
  exact (second_upd hn h.2.2.2 hnd).symm
theorem snd_none {L : List Line} {sF s1 : St} {i : Nat} {x : S2} {e : Int} (hi : i < L.length) (h : sndI L sF i x) (hs : stepF x.s (L.getD i lz) = .ok s1) (hp : putsB (L.getD i lz) = false) :
  ∃ y : S2, sndI L sF (i + 1) y ∧ y.s = s1 ∧ y.e = e ∧ y.w sF = x.w sF := by
 obtain ⟨s1', hs1, hp1⟩ := snd_line hi h
 obtain rfl : s1' = s1 := Except.ok.inj (hs1.symm.trans hs)
 have hu := step_none hs hp
 refine ⟨⟨s1', x.acc, e⟩, ⟨step_wf h.1 hs, hp1, ?_, ?_⟩, rfl, rfl, ?_⟩
 ·rw [h.2.2.1, drop_getD (d := lz) hi, cellsF_cons, hp, hs]; rfl
 ·show x.acc.map Prod.fst = s1'.used; rw [hu]; exact h.2.2.2
 ·unfold S2.w; dsimp only; rw [hu]
theorem snd_end {L : List Line} {sF : St} {x : S2} (h : sndI L sF L.length x) : cellsF sF.syms L 0 st0 [] = .ok x.acc ∧ x.w sF = x.acc ∧ x.s = sF := by
 have hs : x.s = sF := by have := h.2.1; rw [List.drop_length] at this; exact Except.ok.inj this
 refine ⟨by rw [h.2.2.1, List.drop_length]; rfl, ?_, hs⟩
 unfold S2.w
 rw [hs, List.drop_length]; exact List.append_nil _
theorem pass2 (L : List Line) (sF : St) (hL : L.length < 2 ^ 47) (hw : Wf sF) (hp : passF L 0 st0 = .ok sF) : HeapCallK Tryz.prog 36 [.pv (linesP L), procF 37] (asH (as2 st0 64) sF.syms (w6 sF.used))
  (fun r Hout => (∃ x : S2, sndI L sF L.length x ∧ r = tupV [i64 0, i64 0] ∧ Hout = asH (as2 x.s x.e) sF.syms (x.w sF)) ∨ (∃ i x e, i < L.length ∧ sndI L sF i x ∧ (putsB (L.getD i lz) = true ∧ (wordF x.s sF.syms (L.getD i lz)).2 = e) ∧ e ≠ 0 ∧ r = tupV [i64 ((i + 1 : Nat) : Int), i64 e] ∧ ∃ a l w, Hout = asH a l w)) (fun _ _ => False) := by
 have h0 : (⟨st0, [], 64⟩ : S2).w sF = w6 sF.used := rfl
 rw [← h0]
 refine f36 (σ := S2) 37 L (fun x => as2 x.s x.e) (fun _ => sF.syms) (fun x => x.w sF) (sndI L sF) (fun i x e => putsB (L.getD i lz) = true ∧ (wordF x.s sF.syms (L.getD i lz)).2 = e) hL (fun i x hi hI => ?_) ⟨st0, [], 64⟩ ⟨wf0, hp, rfl, rfl⟩
 obtain ⟨s1, hs1, _⟩ := snd_line hi hI
 refine HeapCallK.imp (f37 x.s s1 x.e sF.syms (x.w sF) (L.getD i lz) hI.1 hs1 (by rw [snd_keys hI]; exact hw.nu) hw.nd hw.sy) (fun r Hout h => ?_) fun _ _ h => h
 rcases h with ⟨hpt, he, h1, h2⟩ | ⟨hpt, h0, h1, e, h2⟩ | ⟨hpt, h1, e, h2⟩
 ·exact .inr ⟨_, ⟨hpt, rfl⟩, he, h1, h2⟩
 ·obtain ⟨y, hy, e1, e2, e3⟩ := snd_puts (e := e) hi hI hs1 hpt h0
  exact .inl ⟨y, hy, h1, by rw [h2, e1, e2, e3]⟩
 ·obtain ⟨y, hy, e1, e2, e3⟩ := snd_none (e := e) hi hI hs1 hpt
  exact .inl ⟨y, hy, h1, by rw [h2, e1, e2, e3]⟩
def cellsP (l : List (Nat × Nat)) : PV := sqA 55 2 cellP (0, 0) l
def objV (o : ObjR) : AV := .agg 2 (getL [.pv (cellsP o.cells), .pv (symsP o.syms)])
def objT (x : ObjR × Int × Int) : AV := tupV [objV x.1, i64 x.2.1, i64 x.2.2]
def objB (a b : AV) : AO := ⟨27, 0, 2, 1, fun _ j => getL [a, b] j⟩
theorem objB_le {H : Heap} {B : List Nat} {U : List (Nat × Nat)} {o : AO} {a b : AV} (e1 : o.E = 27) (e2 : o.gen = 0) (e3 : o.sz = 2) (e4 : o.n = 1) (h0 : VLe H B U (o.f 0 0) a) (h1 : VLe H B U (o.f 0 1) b) : OLe H B U o (objB a b) :=
 ⟨e1.symm, e2.symm, e3.symm, Nat.le_of_eq e4.symm, fun i j hi hj => by
   have hi0 : i = 0 := Nat.lt_one_iff.mp hi
   subst hi0
   rw [e3] at hj
   match j, hj with
   | 0, _ => exact h0
   | 1, _ => exact h1⟩
theorem objV_le {H : Heap} {B : List Nat} {U : List (Nat × Nat)} {f : Nat → AV} {o : ObjR} (h0 : VLe H B U (f 0) (.pv (cellsP o.cells))) (h1 : VLe H B U (f 1) (.pv (symsP o.syms))) : VLe H B U (.agg 2 f) (objV o) := .agg _ _ _ fun i hi => match i, hi with
 | 0, _ => h0
 | 1, _ => h1
def asmS (s : St) (L : List Line) : ASt := mkSt 80 [(0, .pv (linesP L)), (2, .ptr 2 0 2 0 0), (5, .ptr 200 0 44 0 0), (8, .ptr 100 0 44 0 0)] ((2, objB .nilS .nilS) :: (200, asO (asOf s) 201 102 103) :: (201, opsO) :: asH (as2 st0 64) s.syms (w6 s.used))
def asmP (s : St) (L : List Line) : ASt := mkSt 80 [(0, .pv (linesP L)), (2, .ptr 2 0 2 0 0), (5, .ptr 200 0 44 0 0), (8, .ptr 100 0 44 0 0)] [(2, objB .nilS .nilS), (200, asO (asOf s) 201 102 103), (201, opsO), (100, asO asZ 101 302 303), (101, opsO), (302, symO []), (303, wrdO []), (102, symO s.syms), (103, wrdO (w6 s.used))]
def as9S (x : S2) (s : St) (g : Nat) : ASt := mkSt 80 [(2, .ptr 2 0 2 0 0), (8, .ptr 100 0 44 0 0), (11, .ptr 11 0 2 0 0)] ((2, objB .nilS .nilS) :: (11, objB .nilS (.row 300 g 3 0 s.syms.length)) :: (300, rowA 65 3 Sym.p sz0 g (sortB ltS s.syms)) :: asH (as2 x.s x.e) s.syms x.acc)
theorem wrd_g {w : List (Nat × Nat)} {i : Nat} (h : i < w.length) : (wrdO w).f i 0 = i64 (w.getD i (0, 0)).1 ∧ (wrdO w).f i 1 = u16 (w.getD i (0, 0)).2 := by
 have e : w.getD i (0, 0) = w[i] := by rw [List.getD_eq_getElem?_getD, List.getElem?_eq_getElem h]; rfl
 rw [e]; exact wrd_f h
theorem used_len {s : St} (h : Wf s) : s.used.length ≤ 36864 := by
 have h1 : s.used.length ≤ (List.range 36864).length := h.nu.length_le_of_subset fun j hj => List.mem_range.mpr (h.used j hj)
 simpa using h1
def lpS (x : S2) (s : St) (g : Nat) (P : List Nat × Nat) : ASt := mkSt 80 [(2, .ptr 2 0 2 0 0), (11, .ptr 11 0 2 0 0), (62, .obj 62 2)] [(2, objB .nilS .nilS), (11, objB (.row 1000 P.2 2 0 (outX x.acc (0, 0) P.1).length) (.row 300 g 3 0 s.syms.length)), (1000, rowA 55 2 cellP (0, 0) P.2 (outX x.acc (0, 0) P.1)), (300, rowA 65 3 Sym.p sz0 g (sortB ltS s.syms)), (103, wrdO x.acc), (62, itP 103 0 x.acc.length P.1)]
def as14S (x : S2) (s : St) (g : Nat) (P : List Nat × Nat) : ASt := mkSt 80 [(2, .ptr 2 0 2 0 0), (11, .ptr 11 0 2 0 0)] [(2, objB .nilS .nilS), (11, objB (.row 1000 P.2 2 0 (outX x.acc (0, 0) P.1).length) (.row 300 g 3 0 s.syms.length)), (1000, rowA 55 2 cellP (0, 0) P.2 (outX x.acc (0, 0) P.1)), (300, rowA 65 3 Sym.p sz0 g (sortB ltS s.syms))]
theorem key_dist : ∀ {l : List (Nat × Nat)}, (l.map Prod.fst).Nodup → ∀ {a b : Nat × Nat}, a ∈ l → b ∈ l → a.1 = b.1 → a = b
 | [], _, _, _, ha, _, _ => absurd ha List.not_mem_nil
 | q :: l, h, a, b, ha, hb, e => by
   rw [List.map_cons, List.nodup_cons] at h
   rcases List.mem_cons.mp ha with rfl | ha
   ·rcases List.mem_cons.mp hb with rfl | hb
    ·rfl
    ·exact absurd (List.mem_map.mpr ⟨b, ‹b ∈ l›, e.symm⟩ : a.1 ∈ l.map Prod.fst) h.1
   ·rcases List.mem_cons.mp hb with rfl | hb
    ·exact absurd (List.mem_map.mpr ⟨a, ‹a ∈ l›, e⟩ : b.1 ∈ l.map Prod.fst) h.1
    ·exact key_dist h.2 ha hb e
theorem sortC_perm {l m : List (Nat × Nat)} (hp : m.Perm l) (h : (l.map Prod.fst).Nodup) : sortB ltC m = sortB ltC l :=
 sortB_uniq ltC_asy ltC_tr ((sortB_perm ltC m).trans hp) (sortB_sorted ltC_asy ltC_tr m) fun a ha b hb h1 h2 => by
  unfold ltC at h1 h2
  have h1 := of_decide_eq_false h1
  have h2 := of_decide_eq_false h2
  have e : a.1 = b.1 := by omega
  exact key_dist h ha hb e
set_option maxHeartbeats 2000000 in
theorem f13 (L : List Line) (hL : L.length < 2 ^ 47) (hB : ∀ l ∈ L, LineB l) : PureCall Tryz.prog 13 [.pv (linesP L)] (objT (asmR L)) := by
 refine PureCall.body tab_ok (by kernel_rfl) Tryz.func13 rfl rfl rfl ?_
 refine pW ?_
 refine pW ?_
 refine CallK.heapK (f34 L hL hB) [] [] rfl rfl rfl ⟨.same, trivial⟩ trivial 2000 rfl (fun r Hout hr => ?_) (fun r Hout hr => hr.elim)
 rcases hr with ⟨hlen, rfl, rfl⟩ | ⟨hlen, s, hw, hp, rfl, rfl⟩ | ⟨hlen, i, e, a, l, w, hp, he, rfl, rfl⟩
 ·have e : asmR L = (⟨[], []⟩, 0, 4) := by unfold asmR; rw [if_pos hlen]
  rw [e]
  refine W0 ?_
  refine pW ?_
  refine ⟨fun _ => ?_, fun h => absurd (nm h) (by decide)⟩
  refine W0 ?_
  exact done_tup [objV ⟨[], []⟩, i64 0, i64 4] [] rfl ⟨objV_le VLe.nilA VLe.nilA, .same, .same, trivial⟩
 ·refine W0 ?_
  refine pW ?_
  refine ⟨fun h => absurd rfl (nm h), fun _ => ?_⟩
  refine W0 ?_
  refine awp_pieceM tab_ok mixed (asmP s L) True (fun K hK => ?_) (fun _ => ?_)
  ·refine W0 ?_
   refine CallK.heapK f35 [] [] rfl rfl rfl trivial trivial 3000 rfl (fun r Hout hr => ?_) (fun r Hout hr => hr.elim)
   obtain ⟨rfl, rfl⟩ := hr
   refine W0 ?_
   exact hK _ trivial (SubS.mkN [] [(2, 2), (200, 2100), (201, 2101), (102, 2102), (103, 2103), (100, 3100), (101, 3101), (302, 3102), (303, 3103)] rfl rfl rfl ⟨⟨_, rfl, .same⟩, ⟨_, rfl, .pq rfl⟩, ⟨_, rfl, .pq rfl⟩, ⟨_, rfl, .pq rfl⟩, trivial⟩
    ⟨.inl ⟨_, _, rfl, rfl, rfl, objB_le rfl rfl rfl rfl .nils .nils⟩, .inl ⟨_, _, rfl, rfl, rfl, asLe rfl rfl rfl rfl .same .same .same .same .same (.obj _ _ _ _ rfl rfl) (.obj _ _ _ _ rfl rfl) (.obj _ _ _ _ rfl rfl) fun _ _ => .same⟩, .inr (.inr ⟨_, _, rfl, rfl, rfl, ops_keepR⟩), .inl ⟨_, _, rfl, rfl, rfl, asLe rfl rfl rfl rfl .same .same .same .same .same (.obj _ _ _ _ rfl rfl) (.obj _ _ _ _ rfl rfl) (.obj _ _ _ _ rfl rfl) fun _ _ => .same⟩, .inr (.inr ⟨_, _, rfl, rfl, rfl, ops_keepR⟩), .inr (.inr ⟨_, _, rfl, rfl, rfl, sym_keepR⟩), .inr (.inr ⟨_, _, rfl, rfl, rfl, wrd_keepR⟩), .inr (.inr ⟨_, _, rfl, rfl, rfl, sym_keepR⟩), .inr (.inr ⟨_, _, rfl, rfl, rfl, wrd_keepR⟩), trivial⟩)
  unfold asmP
  refine awp_pieceM tab_ok mixed (asmS s L) True (fun K hK => ?_) (fun _ => ?_)
  ·refine W0 ?_
   refine W0 ?_
   refine ⟨rfl, ?_⟩
   refine W0 ?_
   exact hK _ trivial (SubS.mkN [] [(2, 2), (200, 200), (201, 201), (102, 102), (103, 103), (100, 100), (101, 101)] rfl rfl rfl ⟨⟨_, rfl, .same⟩, ⟨_, rfl, .pq rfl⟩, ⟨_, rfl, .pq rfl⟩, ⟨_, rfl, .pq rfl⟩, trivial⟩
    ⟨.inl ⟨_, _, rfl, rfl, rfl, objB_le rfl rfl rfl rfl .nils .nils⟩, .inl ⟨_, _, rfl, rfl, rfl, asLe rfl rfl rfl rfl .same .same .same .same .same (.obj _ _ _ _ rfl rfl) (.obj _ _ _ _ rfl rfl) (.obj _ _ _ _ rfl rfl) fun _ _ => .same⟩, .inr (.inr ⟨_, _, rfl, rfl, rfl, ops_keep⟩), allAsz rfl rfl rfl rfl rfl (asLe rfl rfl rfl rfl .same .same .same .same .same (.obj _ _ _ _ rfl rfl) (.obj _ _ _ _ rfl rfl) (.obj _ _ _ _ rfl rfl) fun _ _ => .same) sym_keep wrd_keep⟩)
  unfold asmS
  refine pW ?_
  refine CallK.heapK (pass2 L s hL hw hp) [] [(100, 100), (101, 101), (102, 102), (103, 103)] rfl rfl rfl ⟨.same, procV (f := getL [.ptr 100 0 44 0 0]) (.pq rfl), trivial⟩ (allAsz rfl rfl rfl rfl rfl (as_keep rfl rfl rfl) sym_keep wrd_keep) 4000 rfl (fun r Hout hr => ?_) (fun r Hout hr => hr.elim)
  rcases hr with ⟨x, hI, rfl, rfl⟩ | ⟨i, x, e, hi, hI, ⟨hpt, hwe⟩, he, rfl, a, l, w, rfl⟩
  ·obtain ⟨hc, hxw, hxs⟩ := snd_end hI
   rw [hxw]
   refine W0 ?_
   refine ⟨fun h => absurd rfl (nm h), fun _ => ?_⟩
   refine W0 ?_
   have hsl := pass_len L 0 st0 s hp
   have hs0 : st0.syms.length = 0 := rfl
   refine awp_pieceX tab_ok mixed (fun g : Nat => as9S x s g) (fun _ => True) (fun K hK => ?_) (fun g _ => ?_)
   ·refine W0 ?_
    refine CallK.heapK (f38 s.syms (by omega) hw.nd) [] [(102, 102)] rfl rfl rfl ⟨.obj _ _ _ _ rfl rfl, trivial⟩ ⟨.inr (.inr ⟨_, _, rfl, rfl, rfl, sym_keepR⟩), trivial⟩ 5000 rfl (fun r Hout hr => ?_) (fun r Hout hr => hr.elim)
    obtain ⟨g, rfl, rfl⟩ := hr
    refine W0 ?_
    exact hK _ g trivial (SubS.mkN [] [(2, 2), (11, 11), (300, 5200), (100, 100), (101, 101), (102, 102), (103, 103)] rfl rfl rfl ⟨⟨_, rfl, .pq rfl⟩, ⟨_, rfl, .pq rfl⟩, ⟨_, rfl, .pq rfl⟩, trivial⟩
     ⟨.inl ⟨_, _, rfl, rfl, rfl, objB_le rfl rfl rfl rfl .nils .nils⟩, .inl ⟨_, _, rfl, rfl, rfl, objB_le rfl rfl rfl rfl .nils (.rq rfl)⟩, .inl ⟨_, _, rfl, rfl, rfl, .keepA⟩, .inl ⟨_, _, rfl, rfl, rfl, asLe rfl rfl rfl rfl .same .same .same .same .same (.obj _ _ _ _ rfl rfl) (.obj _ _ _ _ rfl rfl) (.obj _ _ _ _ rfl rfl) fun _ _ => .same⟩, .inr (.inr ⟨_, _, rfl, rfl, rfl, ops_keepR⟩), .inr (.inr ⟨_, _, rfl, rfl, rfl, sym_keepR⟩), .inr (.inr ⟨_, _, rfl, rfl, rfl, wrd_keepR⟩), trivial⟩)
   unfold as9S
   have hal : x.acc.length ≤ 36864 := by
    have := congrArg List.length hI.2.2.2
    rw [List.length_map] at this
    rw [this]; exact used_len hI.1
   refine awp_cut (fun P : List Nat × Nat => as14S x s g P) (fun P => (outX x.acc (0, 0) P.1).Perm x.acc) (fun K hK => ?_) (fun P hP => ?_)
   ·refine pW ?_
    refine awp_block (awp_loopI (fun P : List Nat × Nat => comeI x.acc.length P.1) (fun P => lpS x s g P) (fun P => x.acc.length - P.1.length) ([], 0) ⟨List.nodup_nil, fun _ h => absurd h List.not_mem_nil⟩ ?_ ?_)
    ·exact SubS.mkN [] [(2, 2), (11, 11), (300, 300), (103, 103), (62, 62)] rfl rfl rfl ⟨⟨_, rfl, .pq rfl⟩, ⟨_, rfl, .pq rfl⟩, ⟨_, rfl, .obj _ _ _ _ rfl rfl⟩, trivial⟩
      ⟨.inl ⟨_, _, rfl, rfl, rfl, objB_le rfl rfl rfl rfl .nils .nils⟩, .inl ⟨_, _, rfl, rfl, rfl, objB_le rfl rfl rfl rfl (.void _ _ _) (.rq rfl)⟩, .inr (.inl ⟨rfl, rfl⟩), .inl ⟨_, _, rfl, rfl, rfl, .keepA⟩, .inr (.inr ⟨_, _, rfl, rfl, rfl, wrd_keep⟩), .inr (.inr ⟨_, _, rfl, rfl, rfl, itLe (List.length_map ..) rfl rfl rfl (fun _ => .same) (.obj _ _ _ _ rfl rfl) .nils fun _ => .nils⟩), trivial⟩
    ·rintro ⟨P, h⟩ hP
     dsimp only at hP
     have hPl := come_len hP
     unfold lpS
     refine pW ?_
     refine ⟨List.length_map .., fun j hj hsj => ?_, fun hall => ?_⟩
     ·have hjl : j < x.acc.length := hj
      have hs0 : P.any (Nat.beq j) = false := by
       have h1 : (itP 103 0 x.acc.length P).f j 1 = .pv (.bool (P.any (Nat.beq j))) := rfl
       have h2 : AV.pv (.bool (P.any (Nat.beq j))) = .pv (.bool false) := h1.symm.trans hsj
       exact PV.bool.inj (AV.pv.inj h2)
      have hjP : j ∉ P := fun h => by
       rw [List.any_eq_false] at hs0
       exact hs0 j h (Nat.beq_refl j)
      refine W0 ?_
      refine pW ?_
      refine awp_block ?_
      refine pW ?_
      refine ⟨⟨List.length_map .., Int.natCast_nonneg _, by show (j : Int) < (((x.acc.map wrdP).length : Nat) : Int); rw [List.length_map]; omega⟩, ?_⟩
      refine W0 ?_
      rw [Int.toNat_natCast]
      have e0 : pairF ((wrdO x.acc).f j 0) ((wrdO x.acc).f j 1) 0 = i64 (x.acc.getD j (0, 0)).1 := (wrd_g hjl).1
      have e1 : pairF ((wrdO x.acc).f j 0) ((wrdO x.acc).f j 1) 1 = u16 (x.acc.getD j (0, 0)).2 := (wrd_g hjl).2
      rw [e0, e1]
      refine W0 ?_
      refine awp_last tab_ok mixed ?_
      refine W0 ?_
      refine ⟨⟨⟨rfl, rfl, rfl, nle rfl⟩, rfl, rfl, rfl, rfl, rfl, rfl, by show ((outX x.acc (0, 0) P).length + 1) * 16 ≤ 140737488355328; rw [outX_len]; omega⟩, ?_⟩
      refine W0 ?_
      refine W0 ?_
      have hPn : comeI x.acc.length (j :: P) := ⟨List.nodup_cons.mpr ⟨hjP, hP.1⟩, fun k hk => by rcases List.mem_cons.mp hk with rfl | hk; exact hjl; exact hP.2 k hk⟩
      have hPm := come_len hPn
      rw [List.length_cons] at hPm
      refine ⟨(j :: P, h + 1), hPn, SubS.mkN [] [(2, 2), (11, 11), (1000, 1000), (300, 300), (103, 103), (62, 62)] rfl rfl rfl ⟨⟨_, rfl, .pq rfl⟩, ⟨_, rfl, .pq rfl⟩, ⟨_, rfl, .obj _ _ _ _ rfl rfl⟩, trivial⟩ ⟨.inl ⟨_, _, rfl, rfl, rfl, objB_le rfl rfl rfl rfl .nils .nils⟩, .inl ⟨_, _, rfl, rfl, rfl, objB_le rfl rfl rfl rfl (.row _ _ _ _ _ _ _ _ _ rfl rfl rfl (by rw [outX_len, outX_len]; rfl)) (.rq rfl)⟩, .inl ⟨_, _, rfl, rfl, rfl, ?_⟩, .inl ⟨_, _, rfl, rfl, rfl, .keepA⟩, .inr (.inr ⟨_, _, rfl, rfl, rfl, wrd_keep⟩), .inr (.inr ⟨_, _, rfl, rfl, rfl, itP_see rfl (.inl rfl)⟩), trivial⟩, by dsimp only; rw [List.length_cons]; omega⟩
      dsimp only
      rw [outX_cons]
      refine OLe.snocA rfl rfl rfl rfl rfl fun k hk => ?_
      match k, hk with
      | 0, _ => exact .same
      | 1, _ => exact .same
     ·have hall' : ∀ j, j < x.acc.length → P.any (Nat.beq j) = true := fun j hj => by
       have h2 : AV.pv (.bool (P.any (Nat.beq j))) = .pv (.bool true) := hall j hj
       exact PV.bool.inj (AV.pv.inj h2)
      refine W0 ?_
      refine pW ?_
      exact hK _ (P, h) (come_all hP hall') (SubS.mkN [] [(2, 2), (11, 11), (1000, 1000), (300, 300)] rfl rfl rfl ⟨⟨_, rfl, .pq rfl⟩, ⟨_, rfl, .pq rfl⟩, trivial⟩ ⟨.inl ⟨_, _, rfl, rfl, rfl, objB_le rfl rfl rfl rfl .nils .nils⟩, .inl ⟨_, _, rfl, rfl, rfl, objB_le rfl rfl rfl rfl (.rq rfl) (.rq rfl)⟩, .inl ⟨_, _, rfl, rfl, rfl, .keepA⟩, .inl ⟨_, _, rfl, rfl, rfl, .keepA⟩, trivial⟩)
   ·have hnd : (x.acc.map Prod.fst).Nodup := by rw [hI.2.2.2]; exact hI.1.nu
    have hlen2 : (outX x.acc (0, 0) P.1).length = x.acc.length := hP.length_eq
    have hso := sortC_perm hP hnd
    have e : asmR L = (⟨sortB ltC x.acc, sortB ltS s.syms⟩, 0, 0) := by unfold asmR; rw [if_neg (by omega), hp]; dsimp only; rw [hc]
    rw [e]
    unfold as14S
    refine pW ?_
    refine callk_sort39 (l := outX x.acc (0, 0) P.1) rfl (by omega) ((hP.map Prod.fst).nodup_iff.mpr hnd) ?_
    rw [hso]
    refine W0 ?_
    refine awp_last tab_ok mixed ?_
    refine W0 ?_
    exact done_tup [objV ⟨sortB ltC x.acc, sortB ltS s.syms⟩, i64 0, i64 0] [1000, 300] rfl ⟨objV_le (VLe.frzA (g := P.2) (L := sortB ltC x.acc) rfl rfl (hlen2.trans (sortB_perm ltC x.acc).length_eq.symm)) (VLe.frzA (g := g) (L := sortB ltS s.syms) rfl rfl (sortB_perm ltS s.syms).length_eq.symm), .same, .same, trivial⟩
  ·have hc := snd_err hi hI hpt (by rw [hwe]; exact he)
   rw [hwe] at hc
   have e' : asmR L = (⟨[], []⟩, ((i + 1 : Nat) : Int), e) := by unfold asmR; rw [if_neg (by omega), hp]; dsimp only; rw [hc]
   rw [e']
   refine W0 ?_
   refine ⟨fun _ => ?_, fun h => absurd (nm h) he⟩
   refine W0 ?_
   exact done_tup [objV ⟨[], []⟩, i64 ((i + 1 : Nat) : Int), i64 e] [] rfl ⟨objV_le VLe.nilA VLe.nilA, .same, .same, trivial⟩
 ·have e' : asmR L = (⟨[], []⟩, (i : Int), e) := by unfold asmR; rw [if_neg (by omega), hp]
  rw [e']
  refine W0 ?_
  refine pW ?_
  refine ⟨fun _ => ?_, fun h => absurd (nm h) he⟩
  refine W0 ?_
  exact done_tup [objV ⟨[], []⟩, i64 i, i64 e] [] rfl ⟨objV_le VLe.nilA VLe.nilA, .same, .same, trivial⟩
set_option maxHeartbeats 2000000 in
theorem f16 (src : List UInt8) (hs : B62 src) : PureCall Tryz.prog 16 [st src] (objT (textR src)) := by
 refine pR (by kernel_rfl) Tryz.func16 rfl rfl rfl ?_
 refine c0d (tk28 src hs) ⟨.same, trivial⟩ ?_
 refine W0 ?_
 by_cases h : (scanAll src).2.2 = 0
 ·obtain ⟨h1, h2⟩ := scn_ok h
  have e : textR src = asmR (scanAll src).1 := by unfold textR; rw [if_neg (fun hh => hh h)]
  rw [e]
  refine ⟨fun hh => absurd h (nm hh), fun _ => ?_⟩
  refine W0 ?_
  refine c0d (f13 (scanAll src).1 (by omega) h2) ⟨.same, trivial⟩ ?_
  refine W0 ?_
  refine W0 ?_
  exact done_tup [objV (asmR (scanAll src).1).1, i64 (asmR (scanAll src).1).2.1, i64 (asmR (scanAll src).1).2.2] [] rfl ⟨objV_le .same .same, .same, .same, trivial⟩
 ·have e : textR src = (⟨[], []⟩, (scanAll src).2.1, (scanAll src).2.2) := by unfold textR; rw [if_pos h]
  rw [e]
  refine ⟨fun _ => ?_, fun hh => absurd (nm hh) h⟩
  refine W0 ?_
  exact done_tup [objV ⟨[], []⟩, i64 (scanAll src).2.1, i64 (scanAll src).2.2] [] rfl ⟨objV_le VLe.nilA VLe.nilA, .same, .same, trivial⟩
end Go.Proofs.YtkeecnoafjhhdaaGreatDoor
namespace Go.Proofs.YtkeecnoafjhhdaaGreatDoor
open Go Go.AM
theorem ins_at {α : Type} {lt : α → α → Bool} {d x : α} : ∀ {O : List α} {k : Nat}, k ≤ O.length → (∀ j, j < k → lt x (O.getD j d) = false) → (∀ j, k ≤ j → j < O.length → lt x (O.getD j d) = true) → insB lt x O = O.take k ++ x :: O.drop k
 | [], 0, _, _, _ => rfl
 | [], k + 1, h, _, _ => absurd h (by simp)
 | y :: ys, 0, _, _, hi => by
   have h0 : lt x y = true := hi 0 (Nat.le_refl _) (by simp)
   show (if lt x y then x :: y :: ys else y :: insB lt x ys) = _
   rw [if_pos h0]; rfl
 | y :: ys, k + 1, hk, lo, hi => by
   have h0 : lt x y = false := lo 0 (by omega)
   show (if lt x y then x :: y :: ys else y :: insB lt x ys) = _
   rw [if_neg (by rw [h0]; decide), ins_at (O := ys) (k := k) (by simpa using hk) (fun j hj => lo (j + 1) (by omega)) (fun j hj hl => hi (j + 1) (by omega) (by simpa using hl))]
   rfl
theorem ins_srt {α : Type} {lt : α → α → Bool} (tr : ∀ a b c, lt a b = false → lt b c = false → lt a c = false) {d x : α} {O : List α} {k : Nat} (hs : SrtB lt O) (hk : k ≤ O.length) (h0 : k = 0 ∨ lt x (O.getD (k - 1) d) = false) (j : Nat) (hj : j < k) : lt x (O.getD j d) = false := by
 rcases h0 with h0 | h0
 ·omega
 by_cases hj' : j = k - 1
 ·rw [hj']; exact h0
 refine tr _ _ _ h0 ?_
 rw [List.getD_eq_getElem?_getD, List.getD_eq_getElem?_getD, List.getElem?_eq_getElem (show j < O.length by omega), List.getElem?_eq_getElem (show k - 1 < O.length by omega)]
 exact List.pairwise_iff_getElem.mp hs j (k - 1) (by omega) (by omega) (by omega)
theorem sort_succ {α : Type} {lt : α → α → Bool} {d : α} {l : List α} {i : Nat} (h : i < l.length) : sortB lt (l.take (i + 1)) = insB lt (l.getD i d) (sortB lt (l.take i)) := by
 unfold sortB
 rw [List.take_add_one, List.getElem?_eq_getElem h, List.foldl_append, List.getD_eq_getElem?_getD, List.getElem?_eq_getElem h]
 rfl
theorem sort_len {α : Type} {lt : α → α → Bool} {l : List α} : (sortB lt l).length = l.length := (sortB_perm lt l).length_eq
end Go.Proofs.YtkeecnoafjhhdaaGreatDoor
