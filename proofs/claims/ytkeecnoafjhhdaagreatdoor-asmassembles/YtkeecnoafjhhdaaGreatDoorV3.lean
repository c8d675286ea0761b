/- Part of the proof: what the functions that the law calls compute. -/
import Derived.Test.YtkeecnoafjhhdaaGreatDoorV2
namespace Go.Proofs.YtkeecnoafjhhdaaGreatDoor
open Go Go.AM
def fndC (acc : List (Nat × Nat)) (k : Nat) : Option (Nat × Nat) := acc.find? fun q => q.1 == k
def wv (acc : List (Nat × Nat)) (k : Nat) : Int := match fndC acc k with | some q => (q.2 : Int) + 1 | none => 0
theorem fndC_some {acc : List (Nat × Nat)} {k : Nat} {q : Nat × Nat} (h : fndC acc k = some q) : q ∈ acc ∧ q.1 = k := ⟨List.mem_of_find?_eq_some h, by have := List.find?_some h; simpa using this⟩
theorem fndC_none {acc : List (Nat × Nat)} {k : Nat} : fndC acc k = none ↔ k ∉ acc.map Prod.fst := by
 unfold fndC
 rw [List.find?_eq_none]
 constructor
 ·intro h hm
  obtain ⟨q, hq, e⟩ := List.mem_map.mp hm
  exact h q hq (by simpa using e)
 ·intro h q hq e
  exact h (List.mem_map.mpr ⟨q, hq, by simpa using e⟩)
theorem fndC_app {acc : List (Nat × Nat)} {k v : Nat} (h : k ∉ acc.map Prod.fst) (j : Nat) : fndC (acc ++ [(k, v)]) j = if j = k then some (k, v) else fndC acc j := by
 unfold fndC
 rw [List.find?_append]
 by_cases e : j = k
 ·subst e
  rw [if_pos rfl, show List.find? (fun q => q.1 == j) acc = none from fndC_none.mpr h]
  simp
 ·rw [if_neg e]
  have : List.find? (fun q => q.1 == j) [(k, v)] = none := by rw [List.find?_eq_none]; intro q hq; rw [List.mem_singleton.mp hq]; simp; omega
  rw [this, Option.or_none]
theorem wv_app {acc : List (Nat × Nat)} {k v : Nat} (h : k ∉ acc.map Prod.fst) (j : Nat) : wv (acc ++ [(k, v)]) j = if j = k then (v : Int) + 1 else wv acc j := by
 unfold wv
 rw [fndC_app h]
 by_cases e : j = k
 ·rw [if_pos e, if_pos e]
 ·rw [if_neg e, if_neg e]
def cellsL (acc : List (Nat × Nat)) : Nat → List (Nat × Nat)
 | 0 => []
 | n + 1 => cellsL acc n ++ (match fndC acc n with | some q => [q] | none => [])
theorem cellsL_mem {acc : List (Nat × Nat)} : ∀ {n : Nat} {q : Nat × Nat}, q ∈ cellsL acc n ↔ q.1 < n ∧ fndC acc q.1 = some q
 | 0, q => by constructor; intro h; cases h; intro h; omega
 | n + 1, q => by
   show q ∈ cellsL acc n ++ _ ↔ _
   rw [List.mem_append, cellsL_mem (n := n)]
   constructor
   ·rintro (⟨h1, h2⟩ | h)
    ·exact ⟨by omega, h2⟩
    ·cases hf : fndC acc n with
     | none => rw [hf] at h; cases h
     | some p =>
       rw [hf] at h
       obtain rfl := List.mem_singleton.mp h
       have := (fndC_some hf).2
       rw [this]; exact ⟨by omega, hf⟩
   ·rintro ⟨h1, h2⟩
    by_cases e : q.1 = n
    ·right; rw [← e, h2]; exact List.mem_singleton.mpr rfl
    ·left; exact ⟨by omega, h2⟩
theorem cellsL_srt {acc : List (Nat × Nat)} : ∀ n, (cellsL acc n).Pairwise fun a b => a.1 < b.1
 | 0 => List.Pairwise.nil
 | n + 1 => by
   show (cellsL acc n ++ _).Pairwise _
   rw [List.pairwise_append]
   refine ⟨cellsL_srt n, ?_, fun a ha b hb => ?_⟩
   ·cases fndC acc n with
    | none => exact List.Pairwise.nil
    | some q => exact List.pairwise_singleton _ _
   ·have h1 := (cellsL_mem.mp ha).1
    cases hf : fndC acc n with
    | none => rw [hf] at hb; cases hb
    | some q =>
      rw [hf] at hb
      rw [List.mem_singleton.mp hb, (fndC_some hf).2]; exact h1
theorem inj_keys : ∀ {acc : List (Nat × Nat)} {p q : Nat × Nat}, (acc.map Prod.fst).Nodup → p ∈ acc → q ∈ acc → p.1 = q.1 → p = q
 | [], _, _, _, h, _, _ => absurd h List.not_mem_nil
 | a :: l, p, q, hd, hp, hq, e => by
   rw [List.map_cons, List.nodup_cons] at hd
   rcases List.mem_cons.mp hp with hp1 | hp1 <;> rcases List.mem_cons.mp hq with hq1 | hq1
   ·rw [hp1, hq1]
   ·exact absurd (List.mem_map.mpr ⟨q, hq1, by rw [← e, hp1]⟩) hd.1
   ·exact absurd (List.mem_map.mpr ⟨p, hp1, by rw [e, hq1]⟩) hd.1
   ·exact inj_keys hd.2 hp1 hq1 e
theorem fnd_mem {acc : List (Nat × Nat)} (hd : (acc.map Prod.fst).Nodup) {q : Nat × Nat} (h : q ∈ acc) : fndC acc q.1 = some q := by
 cases hf : fndC acc q.1 with
 | none => exact absurd (List.mem_map.mpr ⟨q, h, rfl⟩) (fndC_none.mp hf)
 | some p =>
   obtain ⟨hp, e⟩ := fndC_some hf
   exact congrArg some (inj_keys hd hp h e)
theorem cellsL_eq {acc : List (Nat × Nat)} {n : Nat} (hd : (acc.map Prod.fst).Nodup) (hn : ∀ q ∈ acc, q.1 < n) : cellsL acc n = sortB ltC acc := by
 have key : ∀ {a b : Nat × Nat}, a ∈ acc → b ∈ acc → a.1 = b.1 → a = b := fun ha hb e => by
  have h1 := fnd_mem hd ha
  have h2 := fnd_mem hd hb
  rw [e, h2] at h1
  exact (Option.some.inj h1).symm
 refine sortB_uniq ltC_asy ltC_tr ?_ ((cellsL_srt n).imp fun h => decide_eq_false (by omega)) fun a ha b hb h1 h2 => ?_
 ·have h1 : (cellsL acc n).Nodup := (cellsL_srt n).imp fun h e => by rw [e] at h; omega
  have h2 : acc.Nodup := List.Pairwise.of_map Prod.fst (fun a b h e => h (congrArg Prod.fst e)) hd
  rw [List.perm_ext_iff_of_nodup h1 h2]
  intro q
  rw [cellsL_mem]
  constructor
  ·exact fun h => (fndC_some h.2).1
  ·exact fun h => ⟨hn q h, fnd_mem hd h⟩
 ·have e1 : ¬ a.1 < b.1 := of_decide_eq_false h1
  have e2 : ¬ b.1 < a.1 := of_decide_eq_false h2
  exact key ha hb (by omega)
theorem find_sort {l : List Sym} (h : NodupS l) (n : List UInt8) : findS (sortB ltS l) n = findS l n := by
 have hm : ∀ x, x ∈ sortB ltS l ↔ x ∈ l := fun x => (sortB_perm ltS l).mem_iff
 cases hf : findS l n with
 | none =>
   have := find_none.mp hf
   exact find_none.mpr fun x hx => this x ((hm x).mp hx)
 | some y =>
   obtain ⟨hy, e⟩ := find_some hf
   refine find_uniq ?_ ((hm y).mpr hy) e
   unfold NodupS at h ⊢
   exact ((sortB_perm ltS l).map Sym.nm).nodup_iff.mpr h
theorem word_sort {s : St} {l : List Sym} {x : Line} (h : NodupS l) : wordF s (sortB ltS l) x = wordF s l x := by
 unfold wordF
 rw [find_sort h]
theorem word_lt {s : St} {sy : List Sym} {x : Line} (ha : Adm x) (h6 : 6 ≤ opK x.op) : (wordF s sy x).1 < 65536 := by
 obtain ⟨hkk, hv1, hv2⟩ := prn_ok ha.pr
 have hal := ha.al
 have hrg := ha.rg
 unfold wordF
 split
 ·rename_i k6
  rw [k6] at hal hrg
  have hv : 0 ≤ x.arg.v ∧ x.arg.v ≤ 32767 := hrg (alw_num hal rfl rfl)
  dsimp only; omega
 rename_i k6
 split
 ·rename_i k7
  rw [k7] at hal hrg
  have hv : -16383 ≤ x.arg.v ∧ x.arg.v ≤ 16383 := hrg (alw_num hal rfl rfl)
  dsimp only; split <;> omega
 rename_i k7
 have enc : ∀ k, opK x.op = 11 → (encF (codeOf x.op) k).1 < 65536 := fun k h => by
  have hc := codeK h
  have hb := bs_le (codeOf x.op) hc.2
  unfold encF
  split
  ·decide
  ·split
   ·decide
   ·dsimp only; omega
 have h12 := opK_lt ha.kn
 split
 ·rename_i k2
  split
  ·decide
  ·rename_i y hy
   have hr := fun k => reach_rng y x.arg.v k s.eb s.bank
   split
   ·have := hr 3; dsimp only; omega
   ·split
    ·have := abs_pos (y := y) (o := x.arg.v) (sp := 2) (by decide); dsimp only; omega
    ·split
     ·have := abs_pos (y := y) (o := x.arg.v) (sp := 1) (by decide); dsimp only; omega
     ·split
      ·exact (by decide : (0 : Nat) < 65536)
      ·exact enc _ (by omega)
 ·rename_i k2
  refine enc _ ?_
  by_cases k8 : opK x.op = 8
  ·rw [k8] at hal; exact absurd (alw_sym hal rfl rfl hkk) k2
  by_cases k9 : opK x.op = 9
  ·rw [k9] at hal; exact absurd (alw_sym hal rfl rfl hkk) k2
  by_cases k10 : opK x.op = 10
  ·rw [k10] at hal; exact absurd (alw_sym hal rfl rfl hkk) k2
  omega
end Go.Proofs.YtkeecnoafjhhdaaGreatDoor
namespace Go.Proofs.YtkeecnoafjhhdaaGreatDoor
open Go Go.AM
attribute [local irreducible] AWP CallK PureCall SubS HeapCallK
theorem f97 (n m : Int) : PureCall Tryz.prog 97 [i64 n, i64 m] (bb (inB n m)) := by
 refine pR (by kernel_rfl) Tryz.func97 rfl rfl rfl ?_
 refine tr (fun h => ?_) fun h => ?_
 ·refine W0 ?_
  exact ⟨[], VLe.bool (by unfold inB; simp; omega)⟩
 ·refine W0 ?_
  exact ⟨[], VLe.bool (by unfold inB; simp; omega)⟩
theorem f59 (n a b : Int) : PureCall Tryz.prog 59 [i64 n, i64 a, i64 b] (bb (decide (a ≤ n ∧ n ≤ b))) := by
 refine pR (by kernel_rfl) Tryz.func59 rfl rfl rfl ?_
 refine tr (fun h => ?_) fun h => ?_
 ·refine W0 ?_
  exact ⟨[], VLe.bool (by simp; omega)⟩
 ·refine W0 ?_
  exact ⟨[], VLe.bool (by simp; omega)⟩
theorem f133 (sp : Nat) (ad : Int) : PureCall Tryz.prog 133 [u8 sp, i64 ad] (bb (valS sp ad)) := by
 refine pR (by kernel_rfl) Tryz.func133 rfl rfl rfl ?_
 refine tr (fun h1 => ?_) fun h1 => ?_
 ·refine W0 ?_
  have e : valS sp ad = decide (0 ≤ ad ∧ ad ≤ 2047) := by unfold valS; rw [if_pos (by omega)]
  rw [e]
  refine c0f (f59 ad 0 2047) ⟨.same, .same, .same, trivial⟩ rfl ?_
  refine W0 ?_
  exact ⟨[], .same⟩
 ·refine W0 ?_
  refine ⟨fun h1' => ?_, fun h1' => ?_⟩ <;> replace h1' := nm h1' <;> (try rw [Int.toNat_zero] at h1') <;> (try rw [Int.toNat_one] at h1')
  ·refine W0 ?_
   have e : valS sp ad = decide (0 ≤ ad ∧ ad ≤ 36863) := by unfold valS; rw [if_neg (by omega), if_pos (by omega)]
   rw [e]
   refine c0f (f59 ad 0 36863) ⟨.same, .same, .same, trivial⟩ rfl ?_
   refine W0 ?_
   exact ⟨[], .same⟩
  ·refine W0 ?_
   have e : valS sp ad = decide (-65535 ≤ ad ∧ ad ≤ 65535) := by unfold valS; rw [if_neg (by omega), if_neg (by omega)]
   rw [e]
   refine c0f (f59 ad (-65535) 65535) ⟨.same, .same, .same, trivial⟩ rfl ?_
   refine W0 ?_
   exact ⟨[], .same⟩
theorem f86 (x : Line) : PureCall Tryz.prog 86 [x.av] (i64 (if x.arg.k = 0 then 1 else x.arg.v)) := by
 refine pR (by kernel_rfl) Tryz.func86 rfl rfl rfl ?_
 refine tr (fun h => ?_) fun h => ?_
 ·refine W0 ?_
  exact ⟨[], VLe.int (by rw [if_pos h])⟩
 ·refine W0 ?_
  exact ⟨[], VLe.int (by rw [if_neg h])⟩
def frmV (f : Frm) : AV := .agg 6 (getL [bb f.no, bb f.nu, bb f.sy, i64 f.lb, i64 f.lo, i64 f.hi])
theorem f84 (F : Frm) (x : Line) : PureCall Tryz.prog 84 [frmV F, x.av] (bb (alwB F x)) := by
 have e1 : (x.lab == []) = decide (x.lab = []) := bdec
 refine pR (by kernel_rfl) Tryz.func84 rfl rfl rfl ?_
 repeat' (first | (refine W1 ?_) | (refine And.intro ?_ ?_ <;> intro hc <;> replace hc := nm hc <;> (conv => whnf)))
 all_goals refine ⟨[], VLe.bool ?_⟩
 all_goals unfold alwB
 all_goals simp_all
 all_goals first | (intro _; omega) | (intro h; exact absurd hc (by omega)) | (intro h; omega)
def kindB (k sp : Int) : Bool := if sp = 1 then (k == 1) || (k == 3) else if sp = 2 then (k == 2) || (k == 3) else true
theorem f58 (k sp : Nat) : PureCall Tryz.prog 58 [u8 k, u8 sp] (bb (kindB k sp)) := by
 refine pR (by kernel_rfl) Tryz.func58 rfl rfl rfl ?_
 repeat' (first | (refine au ?_; conv => whnf) | (refine And.intro ?_ ?_ <;> intro hc <;> replace hc := nm hc <;> (conv => whnf)))
 all_goals refine ⟨[], VLe.bool ?_⟩
 all_goals unfold kindB
 all_goals simp_all
theorem f78 (x : Sym) (o : Int) (sp : Nat) (hx : inI64 (x.ad + o)) : PureCall Tryz.prog 78 [x.av, i64 o, u8 sp] (rsT (absF x o sp)) := by
 refine pR (by kernel_rfl) Tryz.func78 rfl rfl rfl ?_
 refine tr (fun h1 => ?_) fun h1 => ?_
 ·refine W0 ?_
  exact rsE (by unfold absF; rw [if_pos (by omega)]) (by rfl) (by rfl)
 ·refine W0 ?_
  refine ⟨⟨by exact hx⟩, ?_⟩
  refine W0 ?_
  refine c0f (f133 sp (x.ad + o)) ⟨.same, .same, trivial⟩ rfl ?_
  refine W0 ?_
  cases hv : valS sp (x.ad + o) with
  | false =>
    refine W0 ?_
    exact rsE (by unfold absF; rw [if_neg (by omega), if_pos (.inl hv)]) (by rfl) (by rfl)
  | true =>
    refine W0 ?_
    refine tr (fun h3 => ?_) fun h3 => ?_
    ·refine W0 ?_
     exact rsE (by unfold absF; rw [if_neg (by omega), if_pos (.inr h3)]) (by rfl) (by rfl)
    ·refine W0 ?_
     exact rsE (by unfold absF; rw [if_neg (by omega), if_neg (by rw [hv]; rintro (h | h); cases h; omega)]) (by rfl) (by rfl)
theorem f60_1 (ad eb fb : Int) : PureCall Tryz.prog 60 [u8 (1 : Nat), i64 ad, i64 eb, i64 fb] (rsT (operF 1 ad eb fb)) := by
 refine pR (by kernel_rfl) Tryz.func60 rfl rfl rfl ?_
 repeat' (first | (exfalso; omega) | ((first | refine au ?_ | refine c0f (f97 _ _) ⟨.same, .same, trivial⟩ rfl ?_ | refine an (by decide) ?_ | refine na (by decide) ?_ | refine ⟨⟨by decide⟩, ?_⟩ | refine ⟨⟨by decide, by have h := inB_iff.mp (by assumption : inB ad 2047 = true); rw [Int.tdiv_eq_ediv_of_nonneg h.1]; unfold inI64; omega⟩, ?_⟩ | refine ⟨⟨by have h := inB_iff.mp (by assumption : inB ad 2047 = true); rw [Int.tmod_eq_emod_of_nonneg h.1]; unfold inI64; omega⟩, ?_⟩ | fail); conv => whnf) | (refine And.intro ?_ ?_ <;> intro hc <;> replace hc := nm hc <;> (conv => whnf)))
 all_goals refine rsE ?_ (by rfl) (by rfl)
 all_goals unfold operF
 all_goals try (have h := inB_iff.mp (by assumption : inB ad 2047 = true); simp only [Int.tdiv_eq_ediv_of_nonneg h.1, Int.tmod_eq_emod_of_nonneg h.1] at *)
 all_goals simp [*]
 all_goals omega
theorem f60_2 (ad eb fb : Int) : PureCall Tryz.prog 60 [u8 (2 : Nat), i64 ad, i64 eb, i64 fb] (rsT (operF 2 ad eb fb)) := by
 refine pR (by kernel_rfl) Tryz.func60 rfl rfl rfl ?_
 repeat' (first | (exfalso; omega) | ((first | refine au ?_ | refine c0f (f97 _ _) ⟨.same, .same, trivial⟩ rfl ?_ | refine an (by decide) ?_ | refine na (by decide) ?_ | refine ⟨⟨by decide⟩, ?_⟩ | refine ⟨⟨by decide, by have h := inB_iff.mp (by assumption : inB ad 36863 = true); rw [Int.tdiv_eq_ediv_of_nonneg h.1]; unfold inI64; omega⟩, ?_⟩ | refine ⟨⟨by have h := inB_iff.mp (by assumption : inB ad 36863 = true); rw [Int.tmod_eq_emod_of_nonneg h.1]; unfold inI64; omega⟩, ?_⟩ | fail); conv => whnf) | (refine And.intro ?_ ?_ <;> intro hc <;> replace hc := nm hc <;> (conv => whnf)))
 all_goals refine rsE ?_ (by rfl) (by rfl)
 all_goals unfold operF
 all_goals try (have h := inB_iff.mp (by assumption : inB ad 36863 = true); simp only [Int.tdiv_eq_ediv_of_nonneg h.1, Int.tmod_eq_emod_of_nonneg h.1] at *)
 all_goals simp [*]
 all_goals omega
theorem f60_n (sp : Nat) (ad eb fb : Int) (h : sp ≠ 1 ∧ sp ≠ 2) : PureCall Tryz.prog 60 [u8 sp, i64 ad, i64 eb, i64 fb] (rsT (operF sp ad eb fb)) := by
 refine pR (by kernel_rfl) Tryz.func60 rfl rfl rfl ?_
 refine ⟨fun _ => ?_, fun hc => absurd (nm hc) (by omega)⟩
 refine W0 ?_
 refine ⟨fun _ => ?_, fun hc => absurd (nm hc) (by omega)⟩
 refine W0 ?_
 exact rsE (by unfold operF; rw [if_pos h]) (by rfl) (by rfl)
theorem f60 (sp : Nat) (ad eb fb : Int) : PureCall Tryz.prog 60 [u8 sp, i64 ad, i64 eb, i64 fb] (rsT (operF sp ad eb fb)) := by
 by_cases h1 : sp = 1
 ·subst h1; exact f60_1 ad eb fb
 by_cases h2 : sp = 2
 ·subst h2; exact f60_2 ad eb fb
 exact f60_n sp ad eb fb ⟨h1, h2⟩
theorem valS0 {n : Int} : valS 0 n = decide (-65535 ≤ n ∧ n ≤ 65535) := by unfold valS; rw [if_neg (by decide), if_neg (by decide)]
theorem f29_10 (y : Sym) (e : y.sp = 0) (o eb fb : Int) : PureCall Tryz.prog 29 [y.av, i64 o, u8 (1 : Nat), i64 eb, i64 fb] (rsT (reachF y o 1 eb fb)) := by
 have hs0 : (((y.sp : Nat) : Int) == 0) = true := by rw [e]; rfl
 have hs1 : (((y.sp : Nat) : Int) == 1) = false := by rw [e]; rfl
 have hs2 : (((y.sp : Nat) : Int) == 2) = false := by rw [e]; rfl
 have hkb : kindB ((1 : Nat) : Int) ((y.sp : Nat) : Int) = true := by rw [e]; rfl
 have hn0 : (!(((y.sp : Nat) : Int) == 0)) = false := by rw [hs0]; rfl
 have hn1 : (!(((y.sp : Nat) : Int) == 1)) = true := by rw [hs1]; rfl
 have hn2 : (!(((y.sp : Nat) : Int) == 2)) = true := by rw [hs2]; rfl
 have hnk : (!kindB ((1 : Nat) : Int) ((y.sp : Nat) : Int)) = false := by rw [hkb]; rfl
 refine pR (by kernel_rfl) Tryz.func29 rfl rfl rfl ?_
 repeat' (first | ((first | refine au ?_ | refine c0f (f58 _ _) ⟨.same, .same, trivial⟩ rfl ?_ | refine c0f (f59 _ _ _) ⟨.same, .same, .same, trivial⟩ rfl ?_ | refine c0f (f60 _ _ _ _) ⟨.same, .same, .same, .same, trivial⟩ rfl ?_ | refine c0f (xk52 0 [] false 0 0 1 (by decide)) ⟨opG_le .same .same .same .same .same .same, trivial⟩ rfl ?_ | fail); conv => whnf) | (refine W1 ?_) | ((first | refine af hs0 ?_ | refine ag hs0 ?_ | refine af hs1 ?_ | refine ag hs1 ?_ | refine af hs2 ?_ | refine ag hs2 ?_ | refine af hkb ?_ | refine ag hkb ?_ | refine af hn0 ?_ | refine ag hn0 ?_ | refine af hn1 ?_ | refine ag hn1 ?_ | refine af hn2 ?_ | refine ag hn2 ?_ | refine af hnk ?_ | refine ag hnk ?_ | refine an (by decide) ?_ | refine na (by decide) ?_ | refine ⟨⟨by have h1 := (by assumption : -65535 ≤ y.ad ∧ y.ad ≤ 65535); have h2 := (by assumption : -65535 ≤ o ∧ o ≤ 65535); show inI64 (y.ad + o); unfold inI64; omega⟩, ?_⟩ | fail); conv => whnf) | (refine And.intro ?_ ?_ <;> intro hc <;> replace hc := nm hc <;> (conv => whnf)))
 all_goals refine rsE ?_ (by rfl) (by rfl)
 all_goals unfold reachF
 all_goals simp only [lst, mst, e, valS0] at *
 all_goals simp [*]
 all_goals omega
theorem f29_11 (y : Sym) (e : y.sp = 1) (o eb fb : Int) : PureCall Tryz.prog 29 [y.av, i64 o, u8 (1 : Nat), i64 eb, i64 fb] (rsT (reachF y o 1 eb fb)) := by
 have hs0 : (((y.sp : Nat) : Int) == 0) = false := by rw [e]; rfl
 have hs1 : (((y.sp : Nat) : Int) == 1) = true := by rw [e]; rfl
 have hs2 : (((y.sp : Nat) : Int) == 2) = false := by rw [e]; rfl
 have hkb : kindB ((1 : Nat) : Int) ((y.sp : Nat) : Int) = true := by rw [e]; rfl
 have hn0 : (!(((y.sp : Nat) : Int) == 0)) = true := by rw [hs0]; rfl
 have hn1 : (!(((y.sp : Nat) : Int) == 1)) = false := by rw [hs1]; rfl
 have hn2 : (!(((y.sp : Nat) : Int) == 2)) = true := by rw [hs2]; rfl
 have hnk : (!kindB ((1 : Nat) : Int) ((y.sp : Nat) : Int)) = false := by rw [hkb]; rfl
 refine pR (by kernel_rfl) Tryz.func29 rfl rfl rfl ?_
 repeat' (first | ((first | refine au ?_ | refine c0f (f58 _ _) ⟨.same, .same, trivial⟩ rfl ?_ | refine c0f (f59 _ _ _) ⟨.same, .same, .same, trivial⟩ rfl ?_ | refine c0f (f60 _ _ _ _) ⟨.same, .same, .same, .same, trivial⟩ rfl ?_ | refine c0f (xk52 0 [] false 0 0 1 (by decide)) ⟨opG_le .same .same .same .same .same .same, trivial⟩ rfl ?_ | fail); conv => whnf) | (refine W1 ?_) | ((first | refine af hs0 ?_ | refine ag hs0 ?_ | refine af hs1 ?_ | refine ag hs1 ?_ | refine af hs2 ?_ | refine ag hs2 ?_ | refine af hkb ?_ | refine ag hkb ?_ | refine af hn0 ?_ | refine ag hn0 ?_ | refine af hn1 ?_ | refine ag hn1 ?_ | refine af hn2 ?_ | refine ag hn2 ?_ | refine af hnk ?_ | refine ag hnk ?_ | refine an (by decide) ?_ | refine na (by decide) ?_ | refine ⟨⟨by have h1 := (by assumption : -65535 ≤ y.ad ∧ y.ad ≤ 65535); have h2 := (by assumption : -65535 ≤ o ∧ o ≤ 65535); show inI64 (y.ad + o); unfold inI64; omega⟩, ?_⟩ | fail); conv => whnf) | (refine And.intro ?_ ?_ <;> intro hc <;> replace hc := nm hc <;> (conv => whnf)))
 all_goals refine rsE ?_ (by rfl) (by rfl)
 all_goals unfold reachF
 all_goals simp only [lst, mst, e, valS0] at *
 all_goals simp [*]
 all_goals omega
theorem f29_12 (y : Sym) (e : y.sp = 2) (o eb fb : Int) : PureCall Tryz.prog 29 [y.av, i64 o, u8 (1 : Nat), i64 eb, i64 fb] (rsT (reachF y o 1 eb fb)) := by
 have hs0 : (((y.sp : Nat) : Int) == 0) = false := by rw [e]; rfl
 have hs1 : (((y.sp : Nat) : Int) == 1) = false := by rw [e]; rfl
 have hs2 : (((y.sp : Nat) : Int) == 2) = true := by rw [e]; rfl
 have hkb : kindB ((1 : Nat) : Int) ((y.sp : Nat) : Int) = false := by rw [e]; rfl
 have hn0 : (!(((y.sp : Nat) : Int) == 0)) = true := by rw [hs0]; rfl
 have hn1 : (!(((y.sp : Nat) : Int) == 1)) = true := by rw [hs1]; rfl
 have hn2 : (!(((y.sp : Nat) : Int) == 2)) = false := by rw [hs2]; rfl
 have hnk : (!kindB ((1 : Nat) : Int) ((y.sp : Nat) : Int)) = true := by rw [hkb]; rfl
 refine pR (by kernel_rfl) Tryz.func29 rfl rfl rfl ?_
 repeat' (first | ((first | refine au ?_ | refine c0f (f58 _ _) ⟨.same, .same, trivial⟩ rfl ?_ | refine c0f (f59 _ _ _) ⟨.same, .same, .same, trivial⟩ rfl ?_ | refine c0f (f60 _ _ _ _) ⟨.same, .same, .same, .same, trivial⟩ rfl ?_ | refine c0f (xk52 0 [] false 0 0 1 (by decide)) ⟨opG_le .same .same .same .same .same .same, trivial⟩ rfl ?_ | fail); conv => whnf) | (refine W1 ?_) | ((first | refine af hs0 ?_ | refine ag hs0 ?_ | refine af hs1 ?_ | refine ag hs1 ?_ | refine af hs2 ?_ | refine ag hs2 ?_ | refine af hkb ?_ | refine ag hkb ?_ | refine af hn0 ?_ | refine ag hn0 ?_ | refine af hn1 ?_ | refine ag hn1 ?_ | refine af hn2 ?_ | refine ag hn2 ?_ | refine af hnk ?_ | refine ag hnk ?_ | refine an (by decide) ?_ | refine na (by decide) ?_ | refine ⟨⟨by have h1 := (by assumption : -65535 ≤ y.ad ∧ y.ad ≤ 65535); have h2 := (by assumption : -65535 ≤ o ∧ o ≤ 65535); show inI64 (y.ad + o); unfold inI64; omega⟩, ?_⟩ | fail); conv => whnf) | (refine And.intro ?_ ?_ <;> intro hc <;> replace hc := nm hc <;> (conv => whnf)))
 all_goals refine rsE ?_ (by rfl) (by rfl)
 all_goals unfold reachF
 all_goals simp only [lst, mst, e, valS0] at *
 all_goals simp [*]
 all_goals omega
theorem f29_20 (y : Sym) (e : y.sp = 0) (o eb fb : Int) : PureCall Tryz.prog 29 [y.av, i64 o, u8 (2 : Nat), i64 eb, i64 fb] (rsT (reachF y o 2 eb fb)) := by
 have hs0 : (((y.sp : Nat) : Int) == 0) = true := by rw [e]; rfl
 have hs1 : (((y.sp : Nat) : Int) == 1) = false := by rw [e]; rfl
 have hs2 : (((y.sp : Nat) : Int) == 2) = false := by rw [e]; rfl
 have hkb : kindB ((2 : Nat) : Int) ((y.sp : Nat) : Int) = true := by rw [e]; rfl
 have hn0 : (!(((y.sp : Nat) : Int) == 0)) = false := by rw [hs0]; rfl
 have hn1 : (!(((y.sp : Nat) : Int) == 1)) = true := by rw [hs1]; rfl
 have hn2 : (!(((y.sp : Nat) : Int) == 2)) = true := by rw [hs2]; rfl
 have hnk : (!kindB ((2 : Nat) : Int) ((y.sp : Nat) : Int)) = false := by rw [hkb]; rfl
 refine pR (by kernel_rfl) Tryz.func29 rfl rfl rfl ?_
 repeat' (first | ((first | refine au ?_ | refine c0f (f58 _ _) ⟨.same, .same, trivial⟩ rfl ?_ | refine c0f (f59 _ _ _) ⟨.same, .same, .same, trivial⟩ rfl ?_ | refine c0f (f60 _ _ _ _) ⟨.same, .same, .same, .same, trivial⟩ rfl ?_ | refine c0f (xk52 0 [] false 0 0 2 (by decide)) ⟨opG_le .same .same .same .same .same .same, trivial⟩ rfl ?_ | fail); conv => whnf) | (refine W1 ?_) | ((first | refine af hs0 ?_ | refine ag hs0 ?_ | refine af hs1 ?_ | refine ag hs1 ?_ | refine af hs2 ?_ | refine ag hs2 ?_ | refine af hkb ?_ | refine ag hkb ?_ | refine af hn0 ?_ | refine ag hn0 ?_ | refine af hn1 ?_ | refine ag hn1 ?_ | refine af hn2 ?_ | refine ag hn2 ?_ | refine af hnk ?_ | refine ag hnk ?_ | refine an (by decide) ?_ | refine na (by decide) ?_ | refine ⟨⟨by have h1 := (by assumption : -65535 ≤ y.ad ∧ y.ad ≤ 65535); have h2 := (by assumption : -65535 ≤ o ∧ o ≤ 65535); show inI64 (y.ad + o); unfold inI64; omega⟩, ?_⟩ | fail); conv => whnf) | (refine And.intro ?_ ?_ <;> intro hc <;> replace hc := nm hc <;> (conv => whnf)))
 all_goals refine rsE ?_ (by rfl) (by rfl)
 all_goals unfold reachF
 all_goals simp only [lst, mst, e, valS0] at *
 all_goals simp [*]
 all_goals omega
theorem f29_21 (y : Sym) (e : y.sp = 1) (o eb fb : Int) : PureCall Tryz.prog 29 [y.av, i64 o, u8 (2 : Nat), i64 eb, i64 fb] (rsT (reachF y o 2 eb fb)) := by
 have hs0 : (((y.sp : Nat) : Int) == 0) = false := by rw [e]; rfl
 have hs1 : (((y.sp : Nat) : Int) == 1) = true := by rw [e]; rfl
 have hs2 : (((y.sp : Nat) : Int) == 2) = false := by rw [e]; rfl
 have hkb : kindB ((2 : Nat) : Int) ((y.sp : Nat) : Int) = false := by rw [e]; rfl
 have hn0 : (!(((y.sp : Nat) : Int) == 0)) = true := by rw [hs0]; rfl
 have hn1 : (!(((y.sp : Nat) : Int) == 1)) = false := by rw [hs1]; rfl
 have hn2 : (!(((y.sp : Nat) : Int) == 2)) = true := by rw [hs2]; rfl
 have hnk : (!kindB ((2 : Nat) : Int) ((y.sp : Nat) : Int)) = true := by rw [hkb]; rfl
 refine pR (by kernel_rfl) Tryz.func29 rfl rfl rfl ?_
 repeat' (first | ((first | refine au ?_ | refine c0f (f58 _ _) ⟨.same, .same, trivial⟩ rfl ?_ | refine c0f (f59 _ _ _) ⟨.same, .same, .same, trivial⟩ rfl ?_ | refine c0f (f60 _ _ _ _) ⟨.same, .same, .same, .same, trivial⟩ rfl ?_ | refine c0f (xk52 0 [] false 0 0 2 (by decide)) ⟨opG_le .same .same .same .same .same .same, trivial⟩ rfl ?_ | fail); conv => whnf) | (refine W1 ?_) | ((first | refine af hs0 ?_ | refine ag hs0 ?_ | refine af hs1 ?_ | refine ag hs1 ?_ | refine af hs2 ?_ | refine ag hs2 ?_ | refine af hkb ?_ | refine ag hkb ?_ | refine af hn0 ?_ | refine ag hn0 ?_ | refine af hn1 ?_ | refine ag hn1 ?_ | refine af hn2 ?_ | refine ag hn2 ?_ | refine af hnk ?_ | refine ag hnk ?_ | refine an (by decide) ?_ | refine na (by decide) ?_ | refine ⟨⟨by have h1 := (by assumption : -65535 ≤ y.ad ∧ y.ad ≤ 65535); have h2 := (by assumption : -65535 ≤ o ∧ o ≤ 65535); show inI64 (y.ad + o); unfold inI64; omega⟩, ?_⟩ | fail); conv => whnf) | (refine And.intro ?_ ?_ <;> intro hc <;> replace hc := nm hc <;> (conv => whnf)))
 all_goals refine rsE ?_ (by rfl) (by rfl)
 all_goals unfold reachF
 all_goals simp only [lst, mst, e, valS0] at *
 all_goals simp [*]
 all_goals omega
theorem f29_22 (y : Sym) (e : y.sp = 2) (o eb fb : Int) : PureCall Tryz.prog 29 [y.av, i64 o, u8 (2 : Nat), i64 eb, i64 fb] (rsT (reachF y o 2 eb fb)) := by
 have hs0 : (((y.sp : Nat) : Int) == 0) = false := by rw [e]; rfl
 have hs1 : (((y.sp : Nat) : Int) == 1) = false := by rw [e]; rfl
 have hs2 : (((y.sp : Nat) : Int) == 2) = true := by rw [e]; rfl
 have hkb : kindB ((2 : Nat) : Int) ((y.sp : Nat) : Int) = true := by rw [e]; rfl
 have hn0 : (!(((y.sp : Nat) : Int) == 0)) = true := by rw [hs0]; rfl
 have hn1 : (!(((y.sp : Nat) : Int) == 1)) = true := by rw [hs1]; rfl
 have hn2 : (!(((y.sp : Nat) : Int) == 2)) = false := by rw [hs2]; rfl
 have hnk : (!kindB ((2 : Nat) : Int) ((y.sp : Nat) : Int)) = false := by rw [hkb]; rfl
 refine pR (by kernel_rfl) Tryz.func29 rfl rfl rfl ?_
 repeat' (first | ((first | refine au ?_ | refine c0f (f58 _ _) ⟨.same, .same, trivial⟩ rfl ?_ | refine c0f (f59 _ _ _) ⟨.same, .same, .same, trivial⟩ rfl ?_ | refine c0f (f60 _ _ _ _) ⟨.same, .same, .same, .same, trivial⟩ rfl ?_ | refine c0f (xk52 0 [] false 0 0 2 (by decide)) ⟨opG_le .same .same .same .same .same .same, trivial⟩ rfl ?_ | fail); conv => whnf) | (refine W1 ?_) | ((first | refine af hs0 ?_ | refine ag hs0 ?_ | refine af hs1 ?_ | refine ag hs1 ?_ | refine af hs2 ?_ | refine ag hs2 ?_ | refine af hkb ?_ | refine ag hkb ?_ | refine af hn0 ?_ | refine ag hn0 ?_ | refine af hn1 ?_ | refine ag hn1 ?_ | refine af hn2 ?_ | refine ag hn2 ?_ | refine af hnk ?_ | refine ag hnk ?_ | refine an (by decide) ?_ | refine na (by decide) ?_ | refine ⟨⟨by have h1 := (by assumption : -65535 ≤ y.ad ∧ y.ad ≤ 65535); have h2 := (by assumption : -65535 ≤ o ∧ o ≤ 65535); show inI64 (y.ad + o); unfold inI64; omega⟩, ?_⟩ | fail); conv => whnf) | (refine And.intro ?_ ?_ <;> intro hc <;> replace hc := nm hc <;> (conv => whnf)))
 all_goals refine rsE ?_ (by rfl) (by rfl)
 all_goals unfold reachF
 all_goals simp only [lst, mst, e, valS0] at *
 all_goals simp [*]
 all_goals omega
theorem f29_30 (y : Sym) (e : y.sp = 0) (o eb fb : Int) : PureCall Tryz.prog 29 [y.av, i64 o, u8 (3 : Nat), i64 eb, i64 fb] (rsT (reachF y o 3 eb fb)) := by
 have hs0 : (((y.sp : Nat) : Int) == 0) = true := by rw [e]; rfl
 have hs1 : (((y.sp : Nat) : Int) == 1) = false := by rw [e]; rfl
 have hs2 : (((y.sp : Nat) : Int) == 2) = false := by rw [e]; rfl
 have hkb : kindB ((3 : Nat) : Int) ((y.sp : Nat) : Int) = true := by rw [e]; rfl
 have hn0 : (!(((y.sp : Nat) : Int) == 0)) = false := by rw [hs0]; rfl
 have hn1 : (!(((y.sp : Nat) : Int) == 1)) = true := by rw [hs1]; rfl
 have hn2 : (!(((y.sp : Nat) : Int) == 2)) = true := by rw [hs2]; rfl
 have hnk : (!kindB ((3 : Nat) : Int) ((y.sp : Nat) : Int)) = false := by rw [hkb]; rfl
 refine pR (by kernel_rfl) Tryz.func29 rfl rfl rfl ?_
 repeat' (first | ((first | refine au ?_ | refine c0f (f58 _ _) ⟨.same, .same, trivial⟩ rfl ?_ | refine c0f (f59 _ _ _) ⟨.same, .same, .same, trivial⟩ rfl ?_ | refine c0f (f60 _ _ _ _) ⟨.same, .same, .same, .same, trivial⟩ rfl ?_ | refine c0f (xk52 0 [] false 0 0 3 (by decide)) ⟨opG_le .same .same .same .same .same .same, trivial⟩ rfl ?_ | fail); conv => whnf) | (refine W1 ?_) | ((first | refine af hs0 ?_ | refine ag hs0 ?_ | refine af hs1 ?_ | refine ag hs1 ?_ | refine af hs2 ?_ | refine ag hs2 ?_ | refine af hkb ?_ | refine ag hkb ?_ | refine af hn0 ?_ | refine ag hn0 ?_ | refine af hn1 ?_ | refine ag hn1 ?_ | refine af hn2 ?_ | refine ag hn2 ?_ | refine af hnk ?_ | refine ag hnk ?_ | refine an (by decide) ?_ | refine na (by decide) ?_ | refine ⟨⟨by have h1 := (by assumption : -65535 ≤ y.ad ∧ y.ad ≤ 65535); have h2 := (by assumption : -65535 ≤ o ∧ o ≤ 65535); show inI64 (y.ad + o); unfold inI64; omega⟩, ?_⟩ | fail); conv => whnf) | (refine And.intro ?_ ?_ <;> intro hc <;> replace hc := nm hc <;> (conv => whnf)))
 all_goals refine rsE ?_ (by rfl) (by rfl)
 all_goals unfold reachF
 all_goals simp only [lst, mst, e, valS0] at *
 all_goals simp [*]
 all_goals omega
theorem f29_31 (y : Sym) (e : y.sp = 1) (o eb fb : Int) : PureCall Tryz.prog 29 [y.av, i64 o, u8 (3 : Nat), i64 eb, i64 fb] (rsT (reachF y o 3 eb fb)) := by
 have hs0 : (((y.sp : Nat) : Int) == 0) = false := by rw [e]; rfl
 have hs1 : (((y.sp : Nat) : Int) == 1) = true := by rw [e]; rfl
 have hs2 : (((y.sp : Nat) : Int) == 2) = false := by rw [e]; rfl
 have hkb : kindB ((3 : Nat) : Int) ((y.sp : Nat) : Int) = true := by rw [e]; rfl
 have hn0 : (!(((y.sp : Nat) : Int) == 0)) = true := by rw [hs0]; rfl
 have hn1 : (!(((y.sp : Nat) : Int) == 1)) = false := by rw [hs1]; rfl
 have hn2 : (!(((y.sp : Nat) : Int) == 2)) = true := by rw [hs2]; rfl
 have hnk : (!kindB ((3 : Nat) : Int) ((y.sp : Nat) : Int)) = false := by rw [hkb]; rfl
 refine pR (by kernel_rfl) Tryz.func29 rfl rfl rfl ?_
 repeat' (first | ((first | refine au ?_ | refine c0f (f58 _ _) ⟨.same, .same, trivial⟩ rfl ?_ | refine c0f (f59 _ _ _) ⟨.same, .same, .same, trivial⟩ rfl ?_ | refine c0f (f60 _ _ _ _) ⟨.same, .same, .same, .same, trivial⟩ rfl ?_ | refine c0f (xk52 0 [] false 0 0 3 (by decide)) ⟨opG_le .same .same .same .same .same .same, trivial⟩ rfl ?_ | fail); conv => whnf) | (refine W1 ?_) | ((first | refine af hs0 ?_ | refine ag hs0 ?_ | refine af hs1 ?_ | refine ag hs1 ?_ | refine af hs2 ?_ | refine ag hs2 ?_ | refine af hkb ?_ | refine ag hkb ?_ | refine af hn0 ?_ | refine ag hn0 ?_ | refine af hn1 ?_ | refine ag hn1 ?_ | refine af hn2 ?_ | refine ag hn2 ?_ | refine af hnk ?_ | refine ag hnk ?_ | refine an (by decide) ?_ | refine na (by decide) ?_ | refine ⟨⟨by have h1 := (by assumption : -65535 ≤ y.ad ∧ y.ad ≤ 65535); have h2 := (by assumption : -65535 ≤ o ∧ o ≤ 65535); show inI64 (y.ad + o); unfold inI64; omega⟩, ?_⟩ | fail); conv => whnf) | (refine And.intro ?_ ?_ <;> intro hc <;> replace hc := nm hc <;> (conv => whnf)))
 all_goals refine rsE ?_ (by rfl) (by rfl)
 all_goals unfold reachF
 all_goals simp only [lst, mst, e, valS0] at *
 all_goals simp [*]
 all_goals omega
theorem f29_32 (y : Sym) (e : y.sp = 2) (o eb fb : Int) : PureCall Tryz.prog 29 [y.av, i64 o, u8 (3 : Nat), i64 eb, i64 fb] (rsT (reachF y o 3 eb fb)) := by
 have hs0 : (((y.sp : Nat) : Int) == 0) = false := by rw [e]; rfl
 have hs1 : (((y.sp : Nat) : Int) == 1) = false := by rw [e]; rfl
 have hs2 : (((y.sp : Nat) : Int) == 2) = true := by rw [e]; rfl
 have hkb : kindB ((3 : Nat) : Int) ((y.sp : Nat) : Int) = true := by rw [e]; rfl
 have hn0 : (!(((y.sp : Nat) : Int) == 0)) = true := by rw [hs0]; rfl
 have hn1 : (!(((y.sp : Nat) : Int) == 1)) = true := by rw [hs1]; rfl
 have hn2 : (!(((y.sp : Nat) : Int) == 2)) = false := by rw [hs2]; rfl
 have hnk : (!kindB ((3 : Nat) : Int) ((y.sp : Nat) : Int)) = false := by rw [hkb]; rfl
 refine pR (by kernel_rfl) Tryz.func29 rfl rfl rfl ?_
 repeat' (first | ((first | refine au ?_ | refine c0f (f58 _ _) ⟨.same, .same, trivial⟩ rfl ?_ | refine c0f (f59 _ _ _) ⟨.same, .same, .same, trivial⟩ rfl ?_ | refine c0f (f60 _ _ _ _) ⟨.same, .same, .same, .same, trivial⟩ rfl ?_ | refine c0f (xk52 0 [] false 0 0 3 (by decide)) ⟨opG_le .same .same .same .same .same .same, trivial⟩ rfl ?_ | fail); conv => whnf) | (refine W1 ?_) | ((first | refine af hs0 ?_ | refine ag hs0 ?_ | refine af hs1 ?_ | refine ag hs1 ?_ | refine af hs2 ?_ | refine ag hs2 ?_ | refine af hkb ?_ | refine ag hkb ?_ | refine af hn0 ?_ | refine ag hn0 ?_ | refine af hn1 ?_ | refine ag hn1 ?_ | refine af hn2 ?_ | refine ag hn2 ?_ | refine af hnk ?_ | refine ag hnk ?_ | refine an (by decide) ?_ | refine na (by decide) ?_ | refine ⟨⟨by have h1 := (by assumption : -65535 ≤ y.ad ∧ y.ad ≤ 65535); have h2 := (by assumption : -65535 ≤ o ∧ o ≤ 65535); show inI64 (y.ad + o); unfold inI64; omega⟩, ?_⟩ | fail); conv => whnf) | (refine And.intro ?_ ?_ <;> intro hc <;> replace hc := nm hc <;> (conv => whnf)))
 all_goals refine rsE ?_ (by rfl) (by rfl)
 all_goals unfold reachF
 all_goals simp only [lst, mst, e, valS0] at *
 all_goals simp [*]
 all_goals omega
theorem f29_40 (y : Sym) (e : y.sp = 0) (o eb fb : Int) : PureCall Tryz.prog 29 [y.av, i64 o, u8 (4 : Nat), i64 eb, i64 fb] (rsT (reachF y o 4 eb fb)) := by
 have hs0 : (((y.sp : Nat) : Int) == 0) = true := by rw [e]; rfl
 have hs1 : (((y.sp : Nat) : Int) == 1) = false := by rw [e]; rfl
 have hs2 : (((y.sp : Nat) : Int) == 2) = false := by rw [e]; rfl
 have hkb : kindB ((4 : Nat) : Int) ((y.sp : Nat) : Int) = true := by rw [e]; rfl
 have hn0 : (!(((y.sp : Nat) : Int) == 0)) = false := by rw [hs0]; rfl
 have hn1 : (!(((y.sp : Nat) : Int) == 1)) = true := by rw [hs1]; rfl
 have hn2 : (!(((y.sp : Nat) : Int) == 2)) = true := by rw [hs2]; rfl
 have hnk : (!kindB ((4 : Nat) : Int) ((y.sp : Nat) : Int)) = false := by rw [hkb]; rfl
 refine pR (by kernel_rfl) Tryz.func29 rfl rfl rfl ?_
 repeat' (first | ((first | refine au ?_ | refine c0f (f58 _ _) ⟨.same, .same, trivial⟩ rfl ?_ | refine c0f (f59 _ _ _) ⟨.same, .same, .same, trivial⟩ rfl ?_ | refine c0f (f60 _ _ _ _) ⟨.same, .same, .same, .same, trivial⟩ rfl ?_ | refine c0f (xk52 0 [] false 0 0 4 (by decide)) ⟨opG_le .same .same .same .same .same .same, trivial⟩ rfl ?_ | fail); conv => whnf) | (refine W1 ?_) | ((first | refine af hs0 ?_ | refine ag hs0 ?_ | refine af hs1 ?_ | refine ag hs1 ?_ | refine af hs2 ?_ | refine ag hs2 ?_ | refine af hkb ?_ | refine ag hkb ?_ | refine af hn0 ?_ | refine ag hn0 ?_ | refine af hn1 ?_ | refine ag hn1 ?_ | refine af hn2 ?_ | refine ag hn2 ?_ | refine af hnk ?_ | refine ag hnk ?_ | refine an (by decide) ?_ | refine na (by decide) ?_ | refine ⟨⟨by have h1 := (by assumption : -65535 ≤ y.ad ∧ y.ad ≤ 65535); have h2 := (by assumption : -65535 ≤ o ∧ o ≤ 65535); show inI64 (y.ad + o); unfold inI64; omega⟩, ?_⟩ | fail); conv => whnf) | (refine And.intro ?_ ?_ <;> intro hc <;> replace hc := nm hc <;> (conv => whnf)))
 all_goals refine rsE ?_ (by rfl) (by rfl)
 all_goals unfold reachF
 all_goals simp only [lst, mst, e, valS0] at *
 all_goals simp [*]
 all_goals omega
theorem f29_41 (y : Sym) (e : y.sp = 1) (o eb fb : Int) : PureCall Tryz.prog 29 [y.av, i64 o, u8 (4 : Nat), i64 eb, i64 fb] (rsT (reachF y o 4 eb fb)) := by
 have hs0 : (((y.sp : Nat) : Int) == 0) = false := by rw [e]; rfl
 have hs1 : (((y.sp : Nat) : Int) == 1) = true := by rw [e]; rfl
 have hs2 : (((y.sp : Nat) : Int) == 2) = false := by rw [e]; rfl
 have hkb : kindB ((4 : Nat) : Int) ((y.sp : Nat) : Int) = false := by rw [e]; rfl
 have hn0 : (!(((y.sp : Nat) : Int) == 0)) = true := by rw [hs0]; rfl
 have hn1 : (!(((y.sp : Nat) : Int) == 1)) = false := by rw [hs1]; rfl
 have hn2 : (!(((y.sp : Nat) : Int) == 2)) = true := by rw [hs2]; rfl
 have hnk : (!kindB ((4 : Nat) : Int) ((y.sp : Nat) : Int)) = true := by rw [hkb]; rfl
 refine pR (by kernel_rfl) Tryz.func29 rfl rfl rfl ?_
 repeat' (first | ((first | refine au ?_ | refine c0f (f58 _ _) ⟨.same, .same, trivial⟩ rfl ?_ | refine c0f (f59 _ _ _) ⟨.same, .same, .same, trivial⟩ rfl ?_ | refine c0f (f60 _ _ _ _) ⟨.same, .same, .same, .same, trivial⟩ rfl ?_ | refine c0f (xk52 0 [] false 0 0 4 (by decide)) ⟨opG_le .same .same .same .same .same .same, trivial⟩ rfl ?_ | fail); conv => whnf) | (refine W1 ?_) | ((first | refine af hs0 ?_ | refine ag hs0 ?_ | refine af hs1 ?_ | refine ag hs1 ?_ | refine af hs2 ?_ | refine ag hs2 ?_ | refine af hkb ?_ | refine ag hkb ?_ | refine af hn0 ?_ | refine ag hn0 ?_ | refine af hn1 ?_ | refine ag hn1 ?_ | refine af hn2 ?_ | refine ag hn2 ?_ | refine af hnk ?_ | refine ag hnk ?_ | refine an (by decide) ?_ | refine na (by decide) ?_ | refine ⟨⟨by have h1 := (by assumption : -65535 ≤ y.ad ∧ y.ad ≤ 65535); have h2 := (by assumption : -65535 ≤ o ∧ o ≤ 65535); show inI64 (y.ad + o); unfold inI64; omega⟩, ?_⟩ | fail); conv => whnf) | (refine And.intro ?_ ?_ <;> intro hc <;> replace hc := nm hc <;> (conv => whnf)))
 all_goals refine rsE ?_ (by rfl) (by rfl)
 all_goals unfold reachF
 all_goals simp only [lst, mst, e, valS0] at *
 all_goals simp [*]
 all_goals omega
theorem f29_42 (y : Sym) (e : y.sp = 2) (o eb fb : Int) : PureCall Tryz.prog 29 [y.av, i64 o, u8 (4 : Nat), i64 eb, i64 fb] (rsT (reachF y o 4 eb fb)) := by
 have hs0 : (((y.sp : Nat) : Int) == 0) = false := by rw [e]; rfl
 have hs1 : (((y.sp : Nat) : Int) == 1) = false := by rw [e]; rfl
 have hs2 : (((y.sp : Nat) : Int) == 2) = true := by rw [e]; rfl
 have hkb : kindB ((4 : Nat) : Int) ((y.sp : Nat) : Int) = false := by rw [e]; rfl
 have hn0 : (!(((y.sp : Nat) : Int) == 0)) = true := by rw [hs0]; rfl
 have hn1 : (!(((y.sp : Nat) : Int) == 1)) = true := by rw [hs1]; rfl
 have hn2 : (!(((y.sp : Nat) : Int) == 2)) = false := by rw [hs2]; rfl
 have hnk : (!kindB ((4 : Nat) : Int) ((y.sp : Nat) : Int)) = true := by rw [hkb]; rfl
 refine pR (by kernel_rfl) Tryz.func29 rfl rfl rfl ?_
 repeat' (first | ((first | refine au ?_ | refine c0f (f58 _ _) ⟨.same, .same, trivial⟩ rfl ?_ | refine c0f (f59 _ _ _) ⟨.same, .same, .same, trivial⟩ rfl ?_ | refine c0f (f60 _ _ _ _) ⟨.same, .same, .same, .same, trivial⟩ rfl ?_ | refine c0f (xk52 0 [] false 0 0 4 (by decide)) ⟨opG_le .same .same .same .same .same .same, trivial⟩ rfl ?_ | fail); conv => whnf) | (refine W1 ?_) | ((first | refine af hs0 ?_ | refine ag hs0 ?_ | refine af hs1 ?_ | refine ag hs1 ?_ | refine af hs2 ?_ | refine ag hs2 ?_ | refine af hkb ?_ | refine ag hkb ?_ | refine af hn0 ?_ | refine ag hn0 ?_ | refine af hn1 ?_ | refine ag hn1 ?_ | refine af hn2 ?_ | refine ag hn2 ?_ | refine af hnk ?_ | refine ag hnk ?_ | refine an (by decide) ?_ | refine na (by decide) ?_ | refine ⟨⟨by have h1 := (by assumption : -65535 ≤ y.ad ∧ y.ad ≤ 65535); have h2 := (by assumption : -65535 ≤ o ∧ o ≤ 65535); show inI64 (y.ad + o); unfold inI64; omega⟩, ?_⟩ | fail); conv => whnf) | (refine And.intro ?_ ?_ <;> intro hc <;> replace hc := nm hc <;> (conv => whnf)))
 all_goals refine rsE ?_ (by rfl) (by rfl)
 all_goals unfold reachF
 all_goals simp only [lst, mst, e, valS0] at *
 all_goals simp [*]
 all_goals omega
theorem f29_13 (y : Sym) (e : 2 < y.sp) (o eb fb : Int) : PureCall Tryz.prog 29 [y.av, i64 o, u8 (1 : Nat), i64 eb, i64 fb] (rsT (reachF y o 1 eb fb)) := by
 have hs0 : (((y.sp : Nat) : Int) == 0) = false := beq_eq_false_iff_ne.mpr (by omega)
 have hs1 : (((y.sp : Nat) : Int) == 1) = false := beq_eq_false_iff_ne.mpr (by omega)
 have hs2 : (((y.sp : Nat) : Int) == 2) = false := beq_eq_false_iff_ne.mpr (by omega)
 have hn0 : (!(((y.sp : Nat) : Int) == 0)) = true := by rw [hs0]; rfl
 have hn1 : (!(((y.sp : Nat) : Int) == 1)) = true := by rw [hs1]; rfl
 have hn2 : (!(((y.sp : Nat) : Int) == 2)) = true := by rw [hs2]; rfl
 refine pR (by kernel_rfl) Tryz.func29 rfl rfl rfl ?_
 repeat' (first | (refine W1 ?_) | ((first | refine af hs0 ?_ | refine ag hs0 ?_ | refine af hs1 ?_ | refine ag hs1 ?_ | refine af hs2 ?_ | refine ag hs2 ?_ | refine af hn0 ?_ | refine ag hn0 ?_ | refine af hn1 ?_ | refine ag hn1 ?_ | refine af hn2 ?_ | refine ag hn2 ?_ | refine an (by decide) ?_ | refine na (by decide) ?_ | fail); conv => whnf) | fail)
 exact rsE (by unfold reachF; rw [if_pos (.inr e)]) (by rfl) (by rfl)
theorem f29_23 (y : Sym) (e : 2 < y.sp) (o eb fb : Int) : PureCall Tryz.prog 29 [y.av, i64 o, u8 (2 : Nat), i64 eb, i64 fb] (rsT (reachF y o 2 eb fb)) := by
 have hs0 : (((y.sp : Nat) : Int) == 0) = false := beq_eq_false_iff_ne.mpr (by omega)
 have hs1 : (((y.sp : Nat) : Int) == 1) = false := beq_eq_false_iff_ne.mpr (by omega)
 have hs2 : (((y.sp : Nat) : Int) == 2) = false := beq_eq_false_iff_ne.mpr (by omega)
 have hn0 : (!(((y.sp : Nat) : Int) == 0)) = true := by rw [hs0]; rfl
 have hn1 : (!(((y.sp : Nat) : Int) == 1)) = true := by rw [hs1]; rfl
 have hn2 : (!(((y.sp : Nat) : Int) == 2)) = true := by rw [hs2]; rfl
 refine pR (by kernel_rfl) Tryz.func29 rfl rfl rfl ?_
 repeat' (first | (refine W1 ?_) | ((first | refine af hs0 ?_ | refine ag hs0 ?_ | refine af hs1 ?_ | refine ag hs1 ?_ | refine af hs2 ?_ | refine ag hs2 ?_ | refine af hn0 ?_ | refine ag hn0 ?_ | refine af hn1 ?_ | refine ag hn1 ?_ | refine af hn2 ?_ | refine ag hn2 ?_ | refine an (by decide) ?_ | refine na (by decide) ?_ | fail); conv => whnf) | fail)
 exact rsE (by unfold reachF; rw [if_pos (.inr e)]) (by rfl) (by rfl)
theorem f29_33 (y : Sym) (e : 2 < y.sp) (o eb fb : Int) : PureCall Tryz.prog 29 [y.av, i64 o, u8 (3 : Nat), i64 eb, i64 fb] (rsT (reachF y o 3 eb fb)) := by
 have hs0 : (((y.sp : Nat) : Int) == 0) = false := beq_eq_false_iff_ne.mpr (by omega)
 have hs1 : (((y.sp : Nat) : Int) == 1) = false := beq_eq_false_iff_ne.mpr (by omega)
 have hs2 : (((y.sp : Nat) : Int) == 2) = false := beq_eq_false_iff_ne.mpr (by omega)
 have hn0 : (!(((y.sp : Nat) : Int) == 0)) = true := by rw [hs0]; rfl
 have hn1 : (!(((y.sp : Nat) : Int) == 1)) = true := by rw [hs1]; rfl
 have hn2 : (!(((y.sp : Nat) : Int) == 2)) = true := by rw [hs2]; rfl
 refine pR (by kernel_rfl) Tryz.func29 rfl rfl rfl ?_
 repeat' (first | (refine W1 ?_) | ((first | refine af hs0 ?_ | refine ag hs0 ?_ | refine af hs1 ?_ | refine ag hs1 ?_ | refine af hs2 ?_ | refine ag hs2 ?_ | refine af hn0 ?_ | refine ag hn0 ?_ | refine af hn1 ?_ | refine ag hn1 ?_ | refine af hn2 ?_ | refine ag hn2 ?_ | refine an (by decide) ?_ | refine na (by decide) ?_ | fail); conv => whnf) | fail)
 exact rsE (by unfold reachF; rw [if_pos (.inr e)]) (by rfl) (by rfl)
theorem f29_43 (y : Sym) (e : 2 < y.sp) (o eb fb : Int) : PureCall Tryz.prog 29 [y.av, i64 o, u8 (4 : Nat), i64 eb, i64 fb] (rsT (reachF y o 4 eb fb)) := by
 have hs0 : (((y.sp : Nat) : Int) == 0) = false := beq_eq_false_iff_ne.mpr (by omega)
 have hs1 : (((y.sp : Nat) : Int) == 1) = false := beq_eq_false_iff_ne.mpr (by omega)
 have hs2 : (((y.sp : Nat) : Int) == 2) = false := beq_eq_false_iff_ne.mpr (by omega)
 have hn0 : (!(((y.sp : Nat) : Int) == 0)) = true := by rw [hs0]; rfl
 have hn1 : (!(((y.sp : Nat) : Int) == 1)) = true := by rw [hs1]; rfl
 have hn2 : (!(((y.sp : Nat) : Int) == 2)) = true := by rw [hs2]; rfl
 refine pR (by kernel_rfl) Tryz.func29 rfl rfl rfl ?_
 repeat' (first | (refine W1 ?_) | ((first | refine af hs0 ?_ | refine ag hs0 ?_ | refine af hs1 ?_ | refine ag hs1 ?_ | refine af hs2 ?_ | refine ag hs2 ?_ | refine af hn0 ?_ | refine ag hn0 ?_ | refine af hn1 ?_ | refine ag hn1 ?_ | refine af hn2 ?_ | refine ag hn2 ?_ | refine an (by decide) ?_ | refine na (by decide) ?_ | fail); conv => whnf) | fail)
 exact rsE (by unfold reachF; rw [if_pos (.inr e)]) (by rfl) (by rfl)
theorem f29_n (y : Sym) (o : Int) (kd : Nat) (eb fb : Int) (h : ¬ (1 ≤ kd ∧ kd ≤ 4)) : PureCall Tryz.prog 29 [y.av, i64 o, u8 kd, i64 eb, i64 fb] (rsT (reachF y o kd eb fb)) := by
 have hs1 : (((kd : Nat) : Int) == 1) = false := beq_eq_false_iff_ne.mpr (by omega)
 have hs2 : (((kd : Nat) : Int) == 2) = false := beq_eq_false_iff_ne.mpr (by omega)
 have hs3 : (((kd : Nat) : Int) == 3) = false := beq_eq_false_iff_ne.mpr (by omega)
 have hs4 : (((kd : Nat) : Int) == 4) = false := beq_eq_false_iff_ne.mpr (by omega)
 have hn4 : (!(((kd : Nat) : Int) == 4)) = true := by rw [hs4]; rfl
 refine pR (by kernel_rfl) Tryz.func29 rfl rfl rfl ?_
 repeat' (first | (refine W1 ?_) | ((first | refine af hs1 ?_ | refine ag hs1 ?_ | refine af hs2 ?_ | refine ag hs2 ?_ | refine af hs3 ?_ | refine ag hs3 ?_ | refine af hs4 ?_ | refine ag hs4 ?_ | refine af hn4 ?_ | refine ag hn4 ?_ | fail); conv => whnf) | fail)
 exact rsE (by unfold reachF; rw [if_pos (.inl h)]) (by rfl) (by rfl)
theorem f29 (y : Sym) (o : Int) (kd : Nat) (eb fb : Int) : PureCall Tryz.prog 29 [y.av, i64 o, u8 kd, i64 eb, i64 fb] (rsT (reachF y o kd eb fb)) := by
 by_cases hk : 1 ≤ kd ∧ kd ≤ 4
 ·have h : kd = 1 ∨ kd = 2 ∨ kd = 3 ∨ kd = 4 := by omega
  have h2 : y.sp = 0 ∨ y.sp = 1 ∨ y.sp = 2 ∨ 2 < y.sp := by omega
  rcases h with rfl | rfl | rfl | rfl
  ·rcases h2 with e | e | e | e
   ·exact f29_10 y e o eb fb
   ·exact f29_11 y e o eb fb
   ·exact f29_12 y e o eb fb
   ·exact f29_13 y e o eb fb
  ·rcases h2 with e | e | e | e
   ·exact f29_20 y e o eb fb
   ·exact f29_21 y e o eb fb
   ·exact f29_22 y e o eb fb
   ·exact f29_23 y e o eb fb
  ·rcases h2 with e | e | e | e
   ·exact f29_30 y e o eb fb
   ·exact f29_31 y e o eb fb
   ·exact f29_32 y e o eb fb
   ·exact f29_33 y e o eb fb
  ·rcases h2 with e | e | e | e
   ·exact f29_40 y e o eb fb
   ·exact f29_41 y e o eb fb
   ·exact f29_42 y e o eb fb
   ·exact f29_43 y e o eb fb
 ·exact f29_n y o kd eb fb hk
theorem find_at : ∀ {l : List Sym} {n : List UInt8} {i : Nat}, i < l.length → (∀ j, j < i → (l.getD j sz0).nm ≠ n) → (l.getD i sz0).nm = n → findS l n = some (l.getD i sz0)
 | [], _, i, hi, _, _ => absurd hi (Nat.not_lt_zero i)
 | a :: l, n, 0, _, _, he => by
   unfold findS
   rw [List.find?_cons]
   have he : a.nm = n := he
   rw [show (a.nm == n) = true by simp [he]]; rfl
 | a :: l, n, i + 1, hi, hno, he => by
   unfold findS
   rw [List.find?_cons]
   have h0 : a.nm ≠ n := hno 0 (Nat.zero_lt_succ i)
   rw [show (a.nm == n) = false by simp [h0]]
   exact find_at (l := l) (Nat.lt_of_succ_lt_succ hi) (fun j hj => hno (j + 1) (Nat.succ_lt_succ hj)) he
theorem find_non {l : List Sym} {n : List UInt8} (h : ∀ j, j < l.length → (l.getD j sz0).nm ≠ n) : findS l n = none :=
 find_none.mpr fun x hx e => by
  obtain ⟨j, hj, rfl⟩ := List.getElem_of_mem hx
  exact h j hj (by rw [List.getD_eq_getElem?_getD, List.getElem?_eq_getElem hj]; exact e)
def fndT (x : Option Sym) : AV := tupV [(x.getD sz0).av, i64 (if x.isSome then 0 else 7)]
set_option maxHeartbeats 1000000 in
theorem f28 (l : List Sym) (n : List UInt8) (hl : l.length < 2 ^ 47) : PureCall Tryz.prog 28 [.pv (symsP l), st n] (fndT (findS l n)) := by
 refine pR (by kernel_rfl) Tryz.func28 rfl rfl rfl ?_
 refine ex_loop tab_ok mixed (fun i : Nat => i ≤ l.length ∧ ∀ j, j < i → (l.getD j sz0).nm ≠ n) (fun i => mkSt 25 [(0, .pv (symsP l)), (1, st n), (4, .ptr 4 0 3 0 0), (6, i64 i)] [(4, symB sz0)]) (fun i => l.length - i) 0 ⟨Nat.zero_le _, fun j hj => absurd hj (Nat.not_lt_zero j)⟩ (SubS.mk [] rfl ⟨⟨_, rfl, .same⟩, ⟨_, rfl, .same⟩, ⟨_, rfl, .pq rfl⟩, ⟨_, rfl, .same⟩, trivial⟩ ⟨.inl ⟨_, _, rfl, rfl, rfl, symB_le rfl rfl rfl rfl .same .same .same⟩, trivial⟩) ?_
 rintro i ⟨hi, hno⟩
 refine W0 ?_
 refine tr (fun hc => ?_) fun hc => ?_
 ·have hlt : i < l.length := by omega
  refine W0 ?_
  refine ⟨⟨by omega, by omega, rfl⟩, ?_⟩
  refine W0 ?_
  refine ⟨⟨by decide⟩, ?_⟩
  refine W0 ?_
  refine ⟨⟨nle rfl⟩, ?_⟩
  refine W0 ?_
  refine ⟨fun h => ?_, fun h => ?_⟩
  ·have he : (l.getD i sz0).nm = n := nm h
   rw [find_at hlt hno he]
   refine W0 ?_
   refine ⟨⟨by omega, by omega, rfl⟩, ?_⟩
   refine W0 ?_
   refine ⟨⟨nle rfl⟩, ?_⟩
   refine W0 ?_
   rw [Int.toNat_natCast]
   exact done_tup [(l.getD i sz0).av, i64 0] [] rfl ⟨symV .same .same .same, .same, trivial⟩
  ·have he : ¬ (l.getD i sz0).nm = n := nm h
   refine W0 ?_
   refine ⟨⟨by unfold inI64; omega⟩, ?_⟩
   refine W0 ?_
   exact ⟨i + 1, ⟨hlt, fun j hj => by rcases Nat.lt_or_ge j i with h | h; exact hno j h; rw [show j = i by omega]; exact he⟩, SubS.mk [] rfl ⟨⟨_, rfl, .same⟩, ⟨_, rfl, .same⟩, ⟨_, rfl, .pq rfl⟩, ⟨_, rfl, .same⟩, trivial⟩ ⟨.inl ⟨_, _, rfl, rfl, rfl, symB_le rfl rfl rfl rfl .same .same .same⟩, trivial⟩, by omega⟩
 ·refine W0 ?_
  have he : findS l n = none := find_non fun j hj => hno j (by omega)
  rw [he]
  exact done_tup [sz0.av, i64 7] [] rfl ⟨symV .same .same .same, .same, trivial⟩
def opZB : AO := ⟨45, 0, 6, 1, fun _ j => getL [u8 0, st [], bb false, u8 0, i64 0, i64 0] j⟩
theorem opZB_le {H : Heap} {B : List Nat} {U : List (Nat × Nat)} {o : AO} (e1 : o.E = 45) (e2 : o.gen = 0) (e3 : o.sz = 6) (e4 : o.n = 1) (h0 : VLe H B U (o.f 0 0) (u8 0)) (h1 : VLe H B U (o.f 0 1) (st [])) (h2 : VLe H B U (o.f 0 2) (bb false)) (h3 : VLe H B U (o.f 0 3) (u8 0)) (h4 : VLe H B U (o.f 0 4) (i64 0)) (h5 : VLe H B U (o.f 0 5) (i64 0)) : OLe H B U o opZB :=
 ⟨e1.symm, e2.symm, e3.symm, Nat.le_of_eq e4.symm, fun i j hi hj => by
   have hi0 : i = 0 := Nat.lt_one_iff.mp hi
   subst hi0
   rw [e3] at hj
   match j, hj with
   | 0, _ => exact h0
   | 1, _ => exact h1
   | 2, _ => exact h2
   | 3, _ => exact h3
   | 4, _ => exact h4
   | 5, _ => exact h5⟩
set_option maxHeartbeats 1000000 in
theorem f79 (n : List UInt8) : PureCall Tryz.prog 79 [st n] (findV n) := by
 refine pR (by kernel_rfl) Tryz.func79 rfl rfl rfl ?_
 refine c0d xk49 trivial ?_
 refine W0 ?_
 refine ex_loop tab_ok mixed (fun i : Nat => i ≤ 39 ∧ ∀ j, j < i → nmsL.getD j [] ≠ n) (fun i => mkSt 26 [(0, st n), (2, .ptr 2 0 6 0 0), (4, .pv (sqA 9 1 scell [] nmsL)), (5, i64 i)] [(2, opZB)]) (fun i => 39 - i) 0 ⟨Nat.zero_le _, fun j hj => absurd hj (Nat.not_lt_zero j)⟩ (SubS.mk [] rfl ⟨⟨_, rfl, .same⟩, ⟨_, rfl, .pq rfl⟩, ⟨_, rfl, .same⟩, ⟨_, rfl, .same⟩, trivial⟩ ⟨.inl ⟨_, _, rfl, rfl, rfl, opZB_le rfl rfl rfl rfl .same .same .same .same .same .same⟩, trivial⟩) ?_
 rintro i ⟨hi, hno⟩
 refine W0 ?_
 refine tr (fun hc => ?_) fun hc => ?_
 ·have hlt : i < 39 := by have : (i : Int) < 39 := hc; omega
  refine W0 ?_
  refine ⟨⟨by omega, by show (i : Int) < 39; omega, rfl⟩, ?_⟩
  refine W0 ?_
  refine ⟨⟨nle rfl⟩, ?_⟩
  refine W0 ?_
  refine ⟨fun h => ?_, fun h => ?_⟩
  ·have he : nmsL.getD i [] = n := nm h
   have hcode : codeOf n = i + 1 := by rw [← he]; exact code_at i hlt
   have e : findV n = tupV [opV (i + 1), i64 0] := by unfold findV; rw [hcode, if_neg (Nat.succ_ne_zero i), if_neg (Nat.succ_ne_zero i)]
   rw [e]
   refine W0 ?_
   refine ⟨⟨by unfold inI64; omega⟩, ?_⟩
   refine W0 ?_
   have ew : IntKind.u8.wrap ((i : Int) + 1) = ((i + 1 : Nat) : Int) := by rw [w8]; omega
   rw [ew]
   refine c0f (xk35 (i + 1) (by omega) (by omega)) ⟨.same, trivial⟩ rfl ?_
   refine W0 ?_
   exact done_tup [opV (i + 1), i64 0] [] rfl ⟨opG_le .same .same .same .same .same .same, .same, trivial⟩
  ·have he : ¬ nmsL.getD i [] = n := nm h
   refine W0 ?_
   refine ⟨⟨by unfold inI64; omega⟩, ?_⟩
   refine W0 ?_
   exact ⟨i + 1, ⟨hlt, fun j hj => by rcases Nat.lt_or_ge j i with h | h; exact hno j h; rw [show j = i by omega]; exact he⟩, SubS.mk [] rfl ⟨⟨_, rfl, .same⟩, ⟨_, rfl, .pq rfl⟩, ⟨_, rfl, .same⟩, ⟨_, rfl, .same⟩, trivial⟩ ⟨.inl ⟨_, _, rfl, rfl, rfl, opZB_le rfl rfl rfl rfl .same .same .same .same .same .same⟩, trivial⟩, by omega⟩
 ·refine W0 ?_
  have hge : (39 : Int) ≤ i := hc
  have hcode : codeOf n = 0 := code_no fun j hj => hno j (by omega)
  have e : findV n = tupV [opZ, i64 7] := by unfold findV; rw [hcode, if_pos rfl, if_pos rfl]
  rw [e]
  exact done_tup [opZ, i64 7] [] rfl ⟨opG_le .same .same .same .same .same .same, .same, trivial⟩
def formV (n : List UInt8) : AV := tupV [frmV (if opK n = 12 then ⟨false, false, false, 0, 0, 0⟩ else frmK (opK n) n), bb (decide (opK n ≠ 12))]
theorem frmV_le {H : Heap} {B : List Nat} {U : List (Nat × Nat)} {f : Nat → AV} {F : Frm} (h0 : VLe H B U (f 0) (bb F.no)) (h1 : VLe H B U (f 1) (bb F.nu)) (h2 : VLe H B U (f 2) (bb F.sy)) (h3 : VLe H B U (f 3) (i64 F.lb)) (h4 : VLe H B U (f 4) (i64 F.lo)) (h5 : VLe H B U (f 5) (i64 F.hi)) : VLe H B U (.agg 6 f) (frmV F) := .agg _ _ _ fun i hi => match i, hi with
 | 0, _ => h0
 | 1, _ => h1
 | 2, _ => h2
 | 3, _ => h3
 | 4, _ => h4
 | 5, _ => h5
theorem nm_of {k : Nat} {n : List UInt8} (hk : k < 11) : (n == (dirL.getD k ([], oprK 0 [] false)).1) = decide (opK n = k) := by
 by_cases h : n = (dirL.getD k ([], oprK 0 [] false)).1
 ·subst h; rw [beq_self_eq_true, dir_at k hk]; simp
 ·rw [beq_eq_false_iff_ne.mpr h]
  refine (decide_eq_false fun e => h ?_).symm
  refine Classical.byContradiction fun hne => ?_
  by_cases hex : ∃ i, i < 11 ∧ (dirL.getD i ([], oprK 0 [] false)).1 = n
  ·obtain ⟨i, hi, hin⟩ := hex
   have := dir_at i hi
   rw [hin, e] at this
   subst this
   exact h hin.symm
  ·have := opK_no fun i hi e' => hex ⟨i, hi, e'⟩
   rw [e] at this
   split at this <;> omega
set_option maxHeartbeats 2000000 in
theorem f83 (n : List UInt8) : PureCall Tryz.prog 83 [st n] (formV n) := by
 have h0 := nm_of (k := 0) (n := n) (by decide)
 have h1 := nm_of (k := 1) (n := n) (by decide)
 have h2 := nm_of (k := 2) (n := n) (by decide)
 have h3 := nm_of (k := 3) (n := n) (by decide)
 have h4 := nm_of (k := 4) (n := n) (by decide)
 have h5 := nm_of (k := 5) (n := n) (by decide)
 have h6 := nm_of (k := 6) (n := n) (by decide)
 have h7 := nm_of (k := 7) (n := n) (by decide)
 have h8 := nm_of (k := 8) (n := n) (by decide)
 have h9 := nm_of (k := 9) (n := n) (by decide)
 have h10 := nm_of (k := 10) (n := n) (by decide)
 have hF : ∀ k, k < 12 → opK n = k → formV n = tupV [frmV (frmK k n), bb true] := fun k hk e => by unfold formV; rw [e, if_neg (by omega)]; have : decide (k ≠ 12) = true := decide_eq_true (by omega); rw [this]
 refine pR (by kernel_rfl) Tryz.func83 rfl rfl rfl ?_
 by_cases k0 : opK n = 0
 ·rw [decide_eq_true k0] at h0
  rw [hF 0 (by decide) k0]
  refine ag h0 ?_
  refine W0 ?_
  exact done_tup [frmV (frmK 0 n), bb true] [] rfl ⟨frmV_le .same .same .same .same .same .same, .same, trivial⟩
 rw [decide_eq_false k0] at h0
 refine af h0 ?_
 refine W0 ?_
 by_cases k1 : opK n = 1
 ·rw [decide_eq_true k1] at h1
  rw [hF 1 (by decide) k1]
  refine ag h1 ?_
  refine W0 ?_
  exact done_tup [frmV (frmK 1 n), bb true] [] rfl ⟨frmV_le .same .same .same .same .same .same, .same, trivial⟩
 rw [decide_eq_false k1] at h1
 refine af h1 ?_
 refine W0 ?_
 by_cases k2 : opK n = 2
 ·rw [decide_eq_true k2] at h2
  rw [hF 2 (by decide) k2]
  refine ag h2 ?_
  refine W0 ?_
  exact done_tup [frmV (frmK 2 n), bb true] [] rfl ⟨frmV_le .same .same .same .same .same .same, .same, trivial⟩
 rw [decide_eq_false k2] at h2
 refine af h2 ?_
 refine W0 ?_
 by_cases k3 : opK n = 3
 ·rw [decide_eq_true k3] at h3
  rw [hF 3 (by decide) k3]
  refine ag h3 ?_
  refine W0 ?_
  exact done_tup [frmV (frmK 3 n), bb true] [] rfl ⟨frmV_le .same .same .same .same .same .same, .same, trivial⟩
 rw [decide_eq_false k3] at h3
 refine af h3 ?_
 refine W0 ?_
 by_cases k4 : opK n = 4
 ·rw [decide_eq_true k4] at h4
  rw [hF 4 (by decide) k4]
  refine ag h4 ?_
  refine W0 ?_
  exact done_tup [frmV (frmK 4 n), bb true] [] rfl ⟨frmV_le .same .same .same .same .same .same, .same, trivial⟩
 rw [decide_eq_false k4] at h4
 refine af h4 ?_
 refine W0 ?_
 by_cases k5 : opK n = 5
 ·rw [decide_eq_true k5] at h5
  rw [hF 5 (by decide) k5]
  refine ag h5 ?_
  refine W0 ?_
  exact done_tup [frmV (frmK 5 n), bb true] [] rfl ⟨frmV_le .same .same .same .same .same .same, .same, trivial⟩
 rw [decide_eq_false k5] at h5
 refine af h5 ?_
 refine W0 ?_
 by_cases k6 : opK n = 6
 ·rw [decide_eq_true k6] at h6
  rw [hF 6 (by decide) k6]
  refine ag h6 ?_
  refine W0 ?_
  exact done_tup [frmV (frmK 6 n), bb true] [] rfl ⟨frmV_le .same .same .same .same .same .same, .same, trivial⟩
 rw [decide_eq_false k6] at h6
 refine af h6 ?_
 refine W0 ?_
 by_cases k7 : opK n = 7
 ·rw [decide_eq_true k7] at h7
  rw [hF 7 (by decide) k7]
  refine ag h7 ?_
  refine W0 ?_
  exact done_tup [frmV (frmK 7 n), bb true] [] rfl ⟨frmV_le .same .same .same .same .same .same, .same, trivial⟩
 rw [decide_eq_false k7] at h7
 refine af h7 ?_
 refine W0 ?_
 by_cases k8 : opK n = 8
 ·rw [decide_eq_true k8] at h8
  rw [hF 8 (by decide) k8]
  refine ag h8 ?_
  refine W0 ?_
  refine ag h8 ?_
  refine W0 ?_
  exact done_tup [frmV (frmK 8 n), bb true] [] rfl ⟨frmV_le .same .same .same .same .same .same, .same, trivial⟩
 rw [decide_eq_false k8] at h8
 refine af h8 ?_
 refine W0 ?_
 by_cases k9 : opK n = 9
 ·rw [decide_eq_true k9] at h9
  rw [hF 9 (by decide) k9]
  refine ag h9 ?_
  refine W0 ?_
  refine ag h9 ?_
  refine W0 ?_
  exact done_tup [frmV (frmK 9 n), bb true] [] rfl ⟨frmV_le .same .same .same .same .same .same, .same, trivial⟩
 rw [decide_eq_false k9] at h9
 refine af h9 ?_
 refine W0 ?_
 by_cases k10 : opK n = 10
 ·rw [decide_eq_true k10] at h10
  rw [hF 10 (by decide) k10]
  refine ag h10 ?_
  refine W0 ?_
  exact done_tup [frmV (frmK 10 n), bb true] [] rfl ⟨frmV_le .same .same .same .same .same .same, .same, trivial⟩
 rw [decide_eq_false k10] at h10
 refine af h10 ?_
 refine W0 ?_
 have hk : opK n = if codeOf n ≠ 0 then 11 else 12 := opK_no fun i hi e => by
  have := dir_at i hi
  rw [e] at this
  omega
 have hf := f79 n
 rcases code_cases n with hc | ⟨hc1, hc2, _⟩
 ·rw [if_neg (by rw [hc]; decide)] at hk
  have e : findV n = tupV [opZ, i64 7] := by unfold findV; rw [hc, if_pos rfl, if_pos rfl]
  rw [e] at hf
  refine c0f hf ⟨.same, trivial⟩ rfl ?_
  refine W0 ?_
  refine ⟨fun _ => ?_, fun h => absurd (nm h) (by decide)⟩
  refine W0 ?_
  have e' : formV n = tupV [frmV ⟨false, false, false, 0, 0, 0⟩, bb false] := by unfold formV; rw [hk]; rfl
  rw [e']
  exact done_tup [frmV ⟨false, false, false, 0, 0, 0⟩, bb false] [] rfl ⟨frmV_le .same .same .same .same .same .same, .same, trivial⟩
 ·have hc0 : codeOf n ≠ 0 := by omega
  rw [if_pos hc0] at hk
  have e : findV n = tupV [opV (codeOf n), i64 0] := by unfold findV; rw [if_neg hc0, if_neg hc0]
  rw [e] at hf
  refine c0f hf ⟨.same, trivial⟩ rfl ?_
  refine W0 ?_
  refine ⟨fun h => absurd rfl (nm h), fun _ => ?_⟩
  refine W0 ?_
  rw [hF 11 (by decide) hk]
  refine tr (fun hk0 => ?_) fun hk0 => ?_
  ·refine W0 ?_
   have e' : frmK 11 n = ⟨true, false, false, 1, 0, 0⟩ := by show (if (ent (codeOf n)).k = 0 then _ else _) = _; rw [if_pos (by omega)]
   rw [e']
   exact done_tup [frmV ⟨true, false, false, 1, 0, 0⟩, bb true] [] rfl ⟨frmV_le .same .same .same .same .same .same, .same, trivial⟩
  ·refine W0 ?_
   have e' : frmK 11 n = ⟨false, true, true, 1, -65535, 65535⟩ := by show (if (ent (codeOf n)).k = 0 then _ else _) = _; rw [if_neg (by omega)]
   rw [e']
   exact done_tup [frmV ⟨false, true, true, 1, -65535, 65535⟩, bb true] [] rfl ⟨frmV_le .same .same .same .same .same .same, .same, trivial⟩
theorem encR_F {c : Nat} {k : Int} (h1 : 1 ≤ c) (h2 : c ≤ 39) : encR c k = (((encF c k).1 : Int), (encF c k).2) := by
 by_cases hr : (lst (ent c).k : Int) ≤ k ∧ k ≤ mst (ent c).k
 ·obtain ⟨n, rfl⟩ : ∃ n : Nat, k = n := ⟨k.toNat, by omega⟩
  have e1 : encF c n = if resv c n then (0, 3) else ((ent c).b + n, 0) := by unfold encF; rw [if_neg (Classical.not_not.mpr hr), Int.toNat_natCast]
  have e2 : encR c n = if resv c n then (0, 3) else (((ent c).b : Int) + n, 0) := by
   unfold encR
   rw [res_eq h1 h2]
   by_cases hv : resv c n = true
   ·rw [if_pos (Or.inr hv), if_pos hv]
   ·rw [if_neg (fun h => h.elim (fun h => by omega) hv), if_neg hv]
  rw [e1, e2]
  by_cases hv : resv c n = true
  ·rw [if_pos hv, if_pos hv]; rfl
  ·rw [if_neg hv, if_neg hv]; rfl
 ·have e1 : encF c k = (0, 3) := by unfold encF; rw [if_pos hr]
  have e2 : encR c k = (0, 3) := by unfold encR; rw [if_pos (Or.inl (by omega))]
  rw [e1, e2]; rfl
end Go.Proofs.YtkeecnoafjhhdaaGreatDoor
namespace Go.Proofs.YtkeecnoafjhhdaaGreatDoor
open Go Go.AM
attribute [local irreducible] AWP CallK PureCall SubS HeapCallK
def ucell (b : Bool) (_ : Nat) : PV := .bool b
def usedL (u : List Nat) : List Bool := (List.range 36864).map fun a => u.contains a
theorem used_g (u : List Nat) {a : Nat} (h : a < 36864) : (usedL u).getD a false = u.contains a := by
 unfold usedL
 rw [List.getD_eq_getElem?_getD, List.getElem?_map, List.getElem?_range h]; rfl
def rst (s : St) (g : Nat) : AO := ⟨124, 0, 7, 1, fun _ j => match j with
 | 0 => i64 s.bank
 | 1 => i64 s.off
 | 2 => i64 s.er
 | 3 => i64 s.eb
 | 4 => bb s.mark
 | 5 => .row 201 g 3 0 s.syms.length
 | _ => .row 202 0 1 0 36864⟩
def usO (u : List Nat) : AO := ⟨4, 0, 1, 36864, fun i j => .pv (ucell ((usedL u).getD i false) j)⟩
attribute [local irreducible] usedL
def refH (s : St) (g : Nat) : List (Nat × AO) := [(200, rst s g), (201, rowA 65 3 Sym.p sz0 g s.syms), (202, usO s.used)]
abbrev kpR : List Nat := [200, 201, 202]
theorem rstLe {H : Heap} {B : List Nat} {U : List (Nat × Nat)} {o : AO} {s : St} {g : Nat} (e1 : o.E = 124) (e2 : o.gen = 0) (e3 : o.sz = 7) (e4 : o.n = 1) (h0 : VLe H B U (o.f 0 0) (i64 s.bank)) (h1 : VLe H B U (o.f 0 1) (i64 s.off)) (h2 : VLe H B U (o.f 0 2) (i64 s.er)) (h3 : VLe H B U (o.f 0 3) (i64 s.eb)) (h4 : VLe H B U (o.f 0 4) (bb s.mark))
  (h5 : VLe H B U (o.f 0 5) (.row 201 g 3 0 s.syms.length)) (h6 : VLe H B U (o.f 0 6) (.row 202 0 1 0 36864)) : OLe H B U o (rst s g) :=
 ⟨e1.symm, e2.symm, e3.symm, Nat.le_of_eq e4.symm, fun i j hi hj => by
   have hi0 : i = 0 := Nat.lt_one_iff.mp hi
   subst hi0
   rw [e3] at hj
   match j, hj with
   | 0, _ => exact h0
   | 1, _ => exact h1
   | 2, _ => exact h2
   | 3, _ => exact h3
   | 4, _ => exact h4
   | 5, _ => exact h5
   | 6, _ => exact h6⟩
theorem us_keep {H : Heap} {B : List Nat} {U : List (Nat × Nat)} {u : List Nat} : OLe H B U (usO u) (usO u) := ⟨rfl, rfl, rfl, Nat.le_refl _, fun _ _ _ _ => .same⟩
theorem rst_keep {H : Heap} {B : List Nat} {U : List (Nat × Nat)} {s : St} {g : Nat} (h1 : lookL U 201 = some 201) (h2 : lookL U 202 = some 202) : OLe H B U (rst s g) (rst s g) :=
 rstLe rfl rfl rfl rfl .same .same .same .same .same (.row _ _ _ _ _ _ _ _ _ h1 rfl rfl rfl) (.row _ _ _ _ _ _ _ _ _ h2 rfl rfl rfl)
theorem allR {st : ASt} {B : List Nat} {U : List (Nat × Nat)} {s : St} {g : Nat} {o0 o1 o2 : AO} (hU : lookL U 200 = some 200 ∧ lookL U 201 = some 201 ∧ lookL U 202 = some 202) (hB : memN 200 B = false ∧ memN 201 B = false ∧ memN 202 B = false)
  (g0 : st.heap 200 = some o0) (g1 : st.heap 201 = some o1) (g2 : st.heap 202 = some o2) (hs0 : o0.sz = 7) (hs1 : o1.sz = 3) (hs2 : o2.sz = 1) (h0 : OLe st.heap B U o0 (rst s g)) (h1 : OLe st.heap B U o1 (rowA 65 3 Sym.p sz0 g s.syms)) (h2 : OLe st.heap B U o2 (usO s.used)) : AllH st B U (refH s g) :=
 ⟨.inl ⟨_, _, hU.1, g0, by rw [hB.1, hs0]; rfl, h0⟩, .inl ⟨_, _, hU.2.1, g1, by rw [hB.2.1, hs1]; rfl, h1⟩, .inl ⟨_, _, hU.2.2, g2, by rw [hB.2.2, hs2]; rfl, h2⟩, trivial⟩
theorem allRz {st : ASt} {B : List Nat} {U : List (Nat × Nat)} {s : St} {g : Nat} {o0 o1 o2 : AO} (g0 : st.heap 200 = some o0) (g1 : st.heap 201 = some o1) (g2 : st.heap 202 = some o2) (hs0 : o0.sz = 7) (hs1 : o1.sz = 3) (hs2 : o2.sz = 1) (h0 : OLe st.heap B U o0 (rst s g)) (h1 : OLe st.heap B U o1 (rowA 65 3 Sym.p sz0 g s.syms)) (h2 : OLe st.heap B U o2 (usO s.used)) (hU : lookL U 200 = some 200 ∧ lookL U 201 = some 201 ∧ lookL U 202 = some 202 := by exact ⟨rfl, rfl, rfl⟩) (hB : memN 200 B = false ∧ memN 201 B = false ∧ memN 202 B = false := by exact ⟨rfl, rfl, rfl⟩) : AllH st B U (refH s g) :=
 allR hU hB g0 g1 g2 hs0 hs1 hs2 h0 h1 h2
theorem f46 (s : St) (g : Nat) (hw : Wf s) : HeapCallK Tryz.prog 46 [.ptr 200 0 7 0 0] (refH s g) (fun r Hout => r = i64 (s.adr : Nat) ∧ Hout = refH s g) (fun _ _ => False) := by
 have hb := hw.bank
 have ho := hw.off
 refine HeapCallK.run tab_ok mixed (by kernel_rfl) Tryz.func46 rfl rfl rfl ?_
 refine W0 ?_
 refine W0 ?_
 refine ⟨⟨by unfold inI64; omega⟩, ?_⟩
 refine W0 ?_
 refine W0 ?_
 refine ⟨⟨by unfold inI64; omega⟩, ?_⟩
 refine W0 ?_
 refine ⟨rfl, ?_⟩
 refine W0 ?_
 exact ⟨_, _, ⟨rfl, rfl⟩, SubS.mkK [] rfl ⟨⟨_, rfl, VLe.int (by show 1024 * (s.bank : Int) + s.off = ((1024 * s.bank + s.off : Nat) : Int); omega)⟩, trivial⟩ (allRz rfl rfl rfl rfl rfl rfl (rst_keep rfl rfl) .keepA us_keep)⟩
end Go.Proofs.YtkeecnoafjhhdaaGreatDoor
namespace Go.Proofs.YtkeecnoafjhhdaaGreatDoor
open Go Go.AM
attribute [local irreducible] AWP CallK PureCall SubS HeapCallK
def aftN (u : List Nat) (b : Nat) : Nat → Nat
 | 0 => 0
 | n + 1 => if u.contains (1024 * b + n) then n + 1 else aftN u b n
theorem aftN_no {u : List Nat} {b n : Nat} (h : u.contains (1024 * b + n) = false) : aftN u b (n + 1) = aftN u b n := by
 show (if u.contains (1024 * b + n) then n + 1 else aftN u b n) = aftN u b n
 rw [h, if_neg (by decide)]
theorem aftN_ge {u : List Nat} {b n k : Nat} (hk : k < n) (h : 1024 * b + k ∈ u) : k + 1 ≤ aftN u b n := by
 induction n with
 | zero => omega
 | succ n ih =>
   unfold aftN
   split
   ·omega
   ·rename_i hc
    have : k ≠ n := fun e => hc (by rw [← e]; simpa using h)
    exact ih (by omega)
theorem aftN_at {u : List Nat} {b n : Nat} : aftN u b n = 0 ∨ ∃ k, k < n ∧ 1024 * b + k ∈ u ∧ aftN u b n = k + 1 := by
 induction n with
 | zero => exact .inl rfl
 | succ n ih =>
   unfold aftN
   split
   ·rename_i hc
    exact .inr ⟨n, by omega, by simpa using hc, rfl⟩
   ·rcases ih with h | ⟨k, h1, h2, h3⟩
    ·exact .inl h
    ·exact .inr ⟨k, by omega, h2, h3⟩
theorem fold_ge : ∀ {l : List Nat} {m x : Nat}, x ∈ l ∨ x ≤ m → x ≤ l.foldl max m
 | [], _, _, h => h.resolve_left (List.not_mem_nil)
 | a :: l, m, x, h => fold_ge (l := l) (m := max m a) (by
    rcases h with h | h
    ·rcases List.mem_cons.mp h with rfl | h
     ·exact .inr (Nat.le_max_right ..)
     ·exact .inl h
    ·exact .inr (Nat.le_trans h (Nat.le_max_left ..)))
theorem fold_at : ∀ {l : List Nat} {m : Nat}, l.foldl max m = m ∨ l.foldl max m ∈ l
 | [], _ => .inl rfl
 | a :: l, m => by
   rw [List.foldl_cons]
   rcases fold_at (l := l) (m := max m a) with h | h
   ·rw [h]
    by_cases hm : a ≤ m
    ·left; omega
    ·right; rw [show max m a = a by omega]; exact List.mem_cons_self
   ·exact .inr (List.mem_cons_of_mem _ h)
theorem aft_ge {u : List Nat} {b k : Nat} (hk : k < 1024) (h : 1024 * b + k ∈ u) : k + 1 ≤ aftF u b :=
 fold_ge (.inl (List.mem_filterMap.mpr ⟨_, h, by rw [if_pos (by omega)]; congr 1; omega⟩))
theorem aft_at {u : List Nat} {b : Nat} : aftF u b = 0 ∨ ∃ k, k < 1024 ∧ 1024 * b + k ∈ u ∧ aftF u b = k + 1 := by
 rcases fold_at (l := u.filterMap fun a => if a / 1024 = b then some (a % 1024 + 1) else none) (m := 0) with h | h
 ·exact .inl h
 ·right
  obtain ⟨a, ha, he⟩ := List.mem_filterMap.mp h
  by_cases hb : a / 1024 = b
  ·rw [if_pos hb] at he
   refine ⟨a % 1024, Nat.mod_lt _ (by decide), ?_, (Option.some.inj he).symm⟩
   rw [show 1024 * b + a % 1024 = a by omega]; exact ha
  ·rw [if_neg hb] at he; cases he
theorem aftN_F (u : List Nat) (b : Nat) : aftN u b 1024 = aftF u b := by
 apply Nat.le_antisymm
 ·rcases aftN_at (u := u) (b := b) (n := 1024) with h | ⟨k, h1, h2, h3⟩
  ·omega
  ·rw [h3]; exact aft_ge h1 h2
 ·rcases aft_at (u := u) (b := b) with h | ⟨k, h1, h2, h3⟩
  ·omega
  ·rw [h3]; exact aftN_ge h1 h2
set_option maxHeartbeats 1000000 in
theorem f85 (s : St) (g b : Nat) (hb : b ≤ 35) : HeapCallK Tryz.prog 85 [.ptr 200 0 7 0 0, i64 b] (refH s g) (fun r Hout => r = i64 (aftF s.used b : Nat) ∧ Hout = refH s g) (fun _ _ => False) := by
 refine HeapCallK.run tab_ok mixed (by kernel_rfl) Tryz.func85 rfl rfl rfl ?_
 refine W0 ?_
 refine ex_loop tab_ok mixed (fun i : Nat => i ≤ 1024) (fun i => mkStK 24 [(0, .ptr 200 0 7 0 0), (1, i64 b), (5, i64 (aftN s.used b i : Nat)), (6, i64 i)] (refH s g) kpR) (fun i => 1024 - i) 0 (Nat.zero_le _) (SubS.mkK [] rfl ⟨⟨_, rfl, .pq rfl⟩, ⟨_, rfl, .same⟩, ⟨_, rfl, .same⟩, ⟨_, rfl, .same⟩, trivial⟩ (allRz rfl rfl rfl rfl rfl rfl (rst_keep rfl rfl) .keepA us_keep)) ?_
 rintro i hi
 refine W0 ?_
 refine tr (fun hc => ?_) fun hc => ?_
 ·have hlt : i < 1024 := by have : (i : Int) < 1024 := hc; omega
  refine W0 ?_
  refine W0 ?_
  refine ⟨⟨by unfold inI64; omega⟩, ?_⟩
  refine W0 ?_
  refine ⟨⟨by unfold inI64; omega⟩, ?_⟩
  refine W0 ?_
  refine ⟨⟨by omega, by show 1024 * (b : Int) + i < 36864; omega, rfl⟩, ?_⟩
  refine W0 ?_
  refine ⟨⟨rfl, rfl, by show 0 + (1024 * (b : Int) + i).toNat < 36864; omega, nle rfl⟩, ?_⟩
  refine W0 ?_
  have eg : (usedL s.used).getD (0 + (1024 * (b : Int) + i).toNat) false = s.used.contains (1024 * b + i) := by
   rw [show 0 + (1024 * (b : Int) + i).toNat = 1024 * b + i by omega]
   exact used_g _ (by omega)
  refine ⟨fun h => ?_, fun h => ?_⟩
  ·have h := eg.symm.trans h
   have e : aftN s.used b (i + 1) = i + 1 := by unfold aftN; rw [if_pos h]
   refine W0 ?_
   refine ⟨⟨by unfold inI64; omega⟩, ?_⟩
   refine W0 ?_
   refine ⟨⟨by unfold inI64; omega⟩, ?_⟩
   refine W0 ?_
   exact ⟨i + 1, hlt, SubS.mkK [] rfl ⟨⟨_, rfl, .pq rfl⟩, ⟨_, rfl, .same⟩, ⟨_, rfl, VLe.int (by rw [e]; rfl)⟩, ⟨_, rfl, .same⟩, trivial⟩ (allRz rfl rfl rfl rfl rfl rfl (rst_keep rfl rfl) .keepA us_keep), by omega⟩
  ·have h := eg.symm.trans h
   have e : aftN s.used b (i + 1) = aftN s.used b i := aftN_no h
   refine W0 ?_
   refine ⟨⟨by unfold inI64; omega⟩, ?_⟩
   refine W0 ?_
   exact ⟨i + 1, hlt, SubS.mkK [] rfl ⟨⟨_, rfl, .pq rfl⟩, ⟨_, rfl, .same⟩, ⟨_, rfl, VLe.int (by rw [e])⟩, ⟨_, rfl, .same⟩, trivial⟩ (allRz rfl rfl rfl rfl rfl rfl (rst_keep rfl rfl) .keepA us_keep), by omega⟩
 ·refine W0 ?_
  have hge : (1024 : Int) ≤ i := hc
  have e : i = 1024 := by omega
  subst e
  rw [aftN_F]
  exact ⟨_, _, ⟨rfl, rfl⟩, SubS.mkK [] rfl ⟨⟨_, rfl, .same⟩, trivial⟩ (allRz rfl rfl rfl rfl rfl rfl (rst_keep rfl rfl) (.keepA) (us_keep))⟩
set_option maxHeartbeats 2000000 in
theorem f45 (s : St) (g : Nat) (n : List UInt8) (ho : opK n ≠ 12) : HeapCallK Tryz.prog 45 [.ptr 200 0 7 0 0, st n] (refH s g) (fun r Hout => r = i64 (cntK (opK n) n s.mark : Nat) ∧ Hout = refH s g) (fun _ _ => False) := by
 have h0 := nm_of (k := 0) (n := n) (by decide)
 have h1 := nm_of (k := 1) (n := n) (by decide)
 have h2 := nm_of (k := 2) (n := n) (by decide)
 have h3 := nm_of (k := 3) (n := n) (by decide)
 have h4 := nm_of (k := 4) (n := n) (by decide)
 have h5 := nm_of (k := 5) (n := n) (by decide)
 have h6 := nm_of (k := 6) (n := n) (by decide)
 have h7 := nm_of (k := 7) (n := n) (by decide)
 have h8 := nm_of (k := 8) (n := n) (by decide)
 have h9 := nm_of (k := 9) (n := n) (by decide)
 have h10 := nm_of (k := 10) (n := n) (by decide)
 refine HeapCallK.run tab_ok mixed (by kernel_rfl) Tryz.func45 rfl rfl rfl ?_
 refine W0 ?_
 by_cases k0 : opK n = 0
 ·rw [decide_eq_true k0] at h0
  have hk : cntK (opK n) n s.mark = 0 := by rw [k0]; rfl
  refine ag h0 ?_
  refine W0 ?_
  refine ag h0 ?_
  refine W0 ?_
  rw [hk]
  exact ⟨_, _, ⟨rfl, rfl⟩, SubS.mkK [] rfl ⟨⟨_, rfl, .same⟩, trivial⟩ (allRz rfl rfl rfl rfl rfl rfl (rst_keep rfl rfl) (.keepA) (us_keep))⟩
 rw [decide_eq_false k0] at h0
 refine af h0 ?_
 refine W0 ?_
 by_cases k1 : opK n = 1
 ·rw [decide_eq_true k1] at h1
  have hk : cntK (opK n) n s.mark = 0 := by rw [k1]; rfl
  refine ag h1 ?_
  refine W0 ?_
  refine ag h1 ?_
  refine W0 ?_
  rw [hk]
  exact ⟨_, _, ⟨rfl, rfl⟩, SubS.mkK [] rfl ⟨⟨_, rfl, .same⟩, trivial⟩ (allRz rfl rfl rfl rfl rfl rfl (rst_keep rfl rfl) (.keepA) (us_keep))⟩
 rw [decide_eq_false k1] at h1
 refine af h1 ?_
 refine W0 ?_
 by_cases k2 : opK n = 2
 ·rw [decide_eq_true k2] at h2
  have hk : cntK (opK n) n s.mark = 0 := by rw [k2]; rfl
  refine ag h2 ?_
  refine W0 ?_
  refine ag h2 ?_
  refine W0 ?_
  rw [hk]
  exact ⟨_, _, ⟨rfl, rfl⟩, SubS.mkK [] rfl ⟨⟨_, rfl, .same⟩, trivial⟩ (allRz rfl rfl rfl rfl rfl rfl (rst_keep rfl rfl) (.keepA) (us_keep))⟩
 rw [decide_eq_false k2] at h2
 refine af h2 ?_
 refine W0 ?_
 by_cases k3 : opK n = 3
 ·rw [decide_eq_true k3] at h3
  have hk : cntK (opK n) n s.mark = 0 := by rw [k3]; rfl
  refine ag h3 ?_
  refine W0 ?_
  refine ag h3 ?_
  refine W0 ?_
  rw [hk]
  exact ⟨_, _, ⟨rfl, rfl⟩, SubS.mkK [] rfl ⟨⟨_, rfl, .same⟩, trivial⟩ (allRz rfl rfl rfl rfl rfl rfl (rst_keep rfl rfl) (.keepA) (us_keep))⟩
 rw [decide_eq_false k3] at h3
 refine af h3 ?_
 refine W0 ?_
 by_cases k4 : opK n = 4
 ·rw [decide_eq_true k4] at h4
  have hk : cntK (opK n) n s.mark = 0 := by rw [k4]; rfl
  refine ag h4 ?_
  refine W0 ?_
  refine ag h4 ?_
  refine W0 ?_
  rw [hk]
  exact ⟨_, _, ⟨rfl, rfl⟩, SubS.mkK [] rfl ⟨⟨_, rfl, .same⟩, trivial⟩ (allRz rfl rfl rfl rfl rfl rfl (rst_keep rfl rfl) (.keepA) (us_keep))⟩
 rw [decide_eq_false k4] at h4
 refine af h4 ?_
 refine W0 ?_
 by_cases k5 : opK n = 5
 ·rw [decide_eq_true k5] at h5
  have hk : cntK (opK n) n s.mark = 0 := by rw [k5]; rfl
  refine ag h5 ?_
  refine W0 ?_
  rw [hk]
  exact ⟨_, _, ⟨rfl, rfl⟩, SubS.mkK [] rfl ⟨⟨_, rfl, .same⟩, trivial⟩ (allRz rfl rfl rfl rfl rfl rfl (rst_keep rfl rfl) (.keepA) (us_keep))⟩
 rw [decide_eq_false k5] at h5
 refine af h5 ?_
 refine W0 ?_
 by_cases k6 : opK n = 6
 ·rw [decide_eq_true k6] at h6
  have hk : cntK (opK n) n s.mark = 1 := by rw [k6]; rfl
  refine ag h6 ?_
  refine W0 ?_
  refine ag h6 ?_
  refine W0 ?_
  rw [hk]
  exact ⟨_, _, ⟨rfl, rfl⟩, SubS.mkK [] rfl ⟨⟨_, rfl, .same⟩, trivial⟩ (allRz rfl rfl rfl rfl rfl rfl (rst_keep rfl rfl) (.keepA) (us_keep))⟩
 rw [decide_eq_false k6] at h6
 refine af h6 ?_
 refine W0 ?_
 by_cases k7 : opK n = 7
 ·rw [decide_eq_true k7] at h7
  have hk : cntK (opK n) n s.mark = 1 := by rw [k7]; rfl
  refine ag h7 ?_
  refine W0 ?_
  refine ag h7 ?_
  refine W0 ?_
  rw [hk]
  exact ⟨_, _, ⟨rfl, rfl⟩, SubS.mkK [] rfl ⟨⟨_, rfl, .same⟩, trivial⟩ (allRz rfl rfl rfl rfl rfl rfl (rst_keep rfl rfl) (.keepA) (us_keep))⟩
 rw [decide_eq_false k7] at h7
 refine af h7 ?_
 refine W0 ?_
 by_cases k8 : opK n = 8
 ·rw [decide_eq_true k8] at h8
  have hk : cntK (opK n) n s.mark = 1 := by rw [k8]; rfl
  refine ag h8 ?_
  refine W0 ?_
  refine ag h8 ?_
  refine W0 ?_
  rw [hk]
  exact ⟨_, _, ⟨rfl, rfl⟩, SubS.mkK [] rfl ⟨⟨_, rfl, .same⟩, trivial⟩ (allRz rfl rfl rfl rfl rfl rfl (rst_keep rfl rfl) (.keepA) (us_keep))⟩
 rw [decide_eq_false k8] at h8
 refine af h8 ?_
 refine W0 ?_
 by_cases k9 : opK n = 9
 ·rw [decide_eq_true k9] at h9
  have hk : cntK (opK n) n s.mark = 1 := by rw [k9]; rfl
  refine ag h9 ?_
  refine W0 ?_
  refine ag h9 ?_
  refine W0 ?_
  rw [hk]
  exact ⟨_, _, ⟨rfl, rfl⟩, SubS.mkK [] rfl ⟨⟨_, rfl, .same⟩, trivial⟩ (allRz rfl rfl rfl rfl rfl rfl (rst_keep rfl rfl) (.keepA) (us_keep))⟩
 rw [decide_eq_false k9] at h9
 refine af h9 ?_
 refine W0 ?_
 by_cases k10 : opK n = 10
 ·rw [decide_eq_true k10] at h10
  have hk : cntK (opK n) n s.mark = 1 := by rw [k10]; rfl
  refine ag h10 ?_
  refine W0 ?_
  rw [hk]
  exact ⟨_, _, ⟨rfl, rfl⟩, SubS.mkK [] rfl ⟨⟨_, rfl, .same⟩, trivial⟩ (allRz rfl rfl rfl rfl rfl rfl (rst_keep rfl rfl) (.keepA) (us_keep))⟩
 rw [decide_eq_false k10] at h10
 refine af h10 ?_
 refine W0 ?_
 have hk : opK n = if codeOf n ≠ 0 then 11 else 12 := opK_no fun i hi e => by
  have := dir_at i hi
  rw [e] at this
  omega
 have hf := f79 n
 have hc0 : codeOf n ≠ 0 := fun e => ho (by rw [hk, if_neg (by rw [e]; decide)])
 rw [if_pos hc0] at hk
 have e : findV n = tupV [opV (codeOf n), i64 0] := by unfold findV; rw [if_neg hc0, if_neg hc0]
 rw [e] at hf
 refine c0f hf ⟨.same, trivial⟩ rfl ?_
 refine W0 ?_
 refine W0 ?_
 refine tr (fun hc => ?_) fun hc => ?_
 ·have hc' : 19 < codeOf n := hc
  refine W0 ?_
  refine W0 ?_
  refine tr (fun hm => ?_) fun hm => ?_
  ·have hm' : s.mark = false := by simpa using hm
   have hk2 : cntK (opK n) n s.mark = 2 := by unfold cntK; rw [hk, if_neg (by decide), if_pos ⟨rfl, hc', hm'⟩]
   rw [hk2]
   refine W0 ?_
   exact ⟨_, _, ⟨rfl, rfl⟩, SubS.mkK [] rfl ⟨⟨_, rfl, .same⟩, trivial⟩ (allRz rfl rfl rfl rfl rfl rfl (rst_keep rfl rfl) (.keepA) (us_keep))⟩
  ·have hk2 : cntK (opK n) n s.mark = 1 := by unfold cntK; rw [hk, if_neg (by decide), if_neg (fun h => by rw [h.2.2] at hm; cases hm)]
   rw [hk2]
   refine W0 ?_
   exact ⟨_, _, ⟨rfl, rfl⟩, SubS.mkK [] rfl ⟨⟨_, rfl, .same⟩, trivial⟩ (allRz rfl rfl rfl rfl rfl rfl (rst_keep rfl rfl) (.keepA) (us_keep))⟩
 ·have hk2 : cntK (opK n) n s.mark = 1 := by unfold cntK; rw [hk, if_neg (by decide), if_neg (fun h => hc h.2.1)]
  rw [hk2]
  refine W0 ?_
  exact ⟨_, _, ⟨rfl, rfl⟩, SubS.mkK [] rfl ⟨⟨_, rfl, .same⟩, trivial⟩ (allRz rfl rfl rfl rfl rfl rfl (rst_keep rfl rfl) (.keepA) (us_keep))⟩
end Go.Proofs.YtkeecnoafjhhdaaGreatDoor
namespace Go.Proofs.YtkeecnoafjhhdaaGreatDoor
open Go Go.AM
def tb80 : Tr := .alt 6 (.alt 7 (.alt 8 (.alt 9 (.alt 11 (.alt 12 .done)))))
attribute [local irreducible] AWP CallK PureCall SubS HeapCallK
def addS (s : St) (x : Sym) : St := { s with syms := s.syms ++ [x] }
set_option maxHeartbeats 2000000 in
theorem f87 (s : St) (g : Nat) (x : Sym) (hl : s.syms.length < 2 ^ 40) : HeapCallK Tryz.prog 87 [.ptr 200 0 7 0 0, x.av] (refH s g) (fun r Hout => r = bb (findS s.syms x.nm).isNone ∧ ∃ g', Hout = refH (if (findS s.syms x.nm).isNone then addS s x else s) g') (fun _ _ => False) := by
 have hf := f28 s.syms x.nm (by omega)
 refine HeapCallK.body tab_ok (by kernel_rfl) Tryz.func87 rfl rfl rfl ?_
 refine pW ?_
 refine awp_cut (fun _ : Unit => mkStK 29 [(0, .ptr 200 0 7 0 0), (3, .ptr 3 0 3 0 0), (6, i64 (if (findS s.syms x.nm).isSome then 0 else 7))] ((3, symB x) :: refH s g) kpR) (fun _ => True) (fun K hK => ?_) (fun _ _ => ?_)
 ·refine awp_tree tab_ok mixed [0, 1, 2, 4, 7, 8, 9, 12] [3, 5] (.alt 0 (.alt 1 (.alt 2 (.alt 4 (.br 3 (.br 5 (.br 6 (.alt 7 (.alt 8 (.alt 9 (.alt 10 (.alt 11 (.alt 12 .done)))))) (.alt 10 tb80)) (.alt 10 (.alt 5 tb80))) (.br 5 (.alt 10 (.alt 3 tb80)) (.alt 10 (.br 3 (.alt 5 tb80) (.skip (.alt 5 .dead)))))))))) (by kernel_rfl) (fun _ _ _ _ _ _ _ h => h) ?_
  conv => whnf
  repeat' (first | (refine W1 ?_) | exact trivial | (refine And2.mk ?_ ?_ <;> (conv => whnf)))
  all_goals refine CallK.flat [201] hf ⟨.frzA rfl rfl rfl, .same, trivial⟩ rfl ?_
  all_goals ((conv => whnf); repeat' (first | (refine W1 ?_) | exact trivial | (refine And2.mk ?_ ?_ <;> (conv => whnf))))
  all_goals exact hK _ () trivial (SubS.mkK [] rfl ⟨⟨_, rfl, .pq rfl⟩, ⟨_, rfl, .pq rfl⟩, ⟨_, rfl, .same⟩, trivial⟩ ⟨.inl ⟨_, _, rfl, rfl, rfl, symB_le rfl rfl rfl rfl .same .same .same⟩, allRz rfl rfl rfl rfl rfl rfl (rst_keep rfl rfl) .keepA us_keep⟩)
 cases hF : findS s.syms x.nm with
 | some y =>
   refine pW ?_
   refine an (by simp) ?_
   refine W0 ?_
   exact ⟨_, _, ⟨rfl, _, rfl⟩, SubS.mkK [] rfl ⟨⟨_, rfl, .same⟩, trivial⟩ (allRz rfl rfl rfl rfl rfl rfl (rst_keep rfl rfl) (.keepA) (us_keep))⟩
 | none =>
   refine pW ?_
   refine na (by simp) ?_
   refine W0 ?_
   refine awp_seq ?_
   refine awp_tree tab_ok mixed [0, 1, 2, 3, 8, 9] [4, 5] (.alt 0 (.alt 1 (.alt 2 (.alt 3 (.br 4 (.alt 5 (.alt 6 (.alt 7 (.alt 8 (.alt 9 (.alt 10 .done)))))) (.alt 5 (.alt 6 (.alt 4 (.alt 7 (.alt 8 (.alt 9 (.alt 10 .done)))))))))))) (by kernel_rfl) (fun _ _ _ _ _ _ _ h => h) ?_
   conv => whnf
   repeat' (first | (refine W1 ?_) | exact trivial | (refine And2.mk ?_ ?_ <;> (conv => whnf)))
   all_goals refine ⟨⟨⟨rfl, rfl, rfl, nle rfl⟩, rfl, rfl, rfl, rfl, rfl, rfl, by show (s.syms.length + 1) * 32 ≤ _; omega⟩, ?_⟩
   all_goals ((conv => whnf); repeat' (first | (refine W1 ?_) | exact trivial | (refine And2.mk ?_ ?_ <;> (conv => whnf))))
   all_goals refine awp_last tab_ok mixed ?_
   all_goals (refine W0 ?_)
   all_goals exact ⟨_, _, ⟨rfl, g + 1, rfl⟩, SubS.mkK [] rfl ⟨⟨_, rfl, .same⟩, trivial⟩ (allRz rfl rfl rfl rfl rfl rfl (s := addS s x) (rstLe rfl rfl rfl rfl .same .same .same .same .same (.row _ _ _ _ _ _ _ _ _ rfl rfl rfl (by show s.syms.length + 1 = (s.syms ++ [x]).length; simp)) (.rq rfl)) (OLe.snocA rfl rfl rfl rfl rfl (fun j hj => match j, hj with | 0, _ => .same | 1, _ => .same | 2, _ => .same)) us_keep)⟩
end Go.Proofs.YtkeecnoafjhhdaaGreatDoor
namespace Go.Proofs.YtkeecnoafjhhdaaGreatDoor
open Go Go.AM
def tb90 : Tr := .alt 7 (.alt 8 (.alt 9 (.alt 10 (.alt 12 (.alt 13 .done)))))
attribute [local irreducible] AWP CallK PureCall SubS HeapCallK
def eqlR (s : St) (x : Line) : Sym × Int :=
 if x.arg.k = 1 then (⟨x.lab, 0, x.arg.v⟩, 0) else match findS s.syms x.arg.nm with
  | none => (sz0, 7)
  | some y => if valS y.sp (y.ad + x.arg.v) = false then (sz0, 3) else (⟨x.lab, y.sp, y.ad + x.arg.v⟩, 0)
def syT (x : Sym × Int) : AV := tupV [x.1.av, i64 x.2]
theorem tup2 {H : Heap} {B : List Nat} {U : List (Nat × Nat)} {f : Nat → AV} {a b : AV} (h0 : VLe H B U (f 0) a) (h1 : VLe H B U (f 1) b) : VLe H B U (.tup 2 f) (tupV [a, b]) := .tup _ _ _ fun i hi => match i, hi with
 | 0, _ => h0
 | 1, _ => h1
set_option maxHeartbeats 2000000 in
theorem f88 (s : St) (g : Nat) (x : Line) (hl : s.syms.length < 2 ^ 40) (hw : Wf s) (hx : -65535 ≤ x.arg.v ∧ x.arg.v ≤ 65535) : HeapCallK Tryz.prog 88 [.ptr 200 0 7 0 0, x.av] (refH s g) (fun r Hout => r = syT (eqlR s x) ∧ Hout = refH s g) (fun _ _ => False) := by
 have hf := f28 s.syms x.arg.nm (by omega)
 refine HeapCallK.body tab_ok (by kernel_rfl) Tryz.func88 rfl rfl rfl ?_
 refine pW ?_
 refine pW ?_
 refine tr (fun hk => ?_) fun hk => ?_
 ·refine W0 ?_
  have e : eqlR s x = (⟨x.lab, 0, x.arg.v⟩, 0) := by unfold eqlR; rw [if_pos hk]
  rw [e]
  exact ⟨_, _, ⟨rfl, rfl⟩, SubS.mkK [] rfl ⟨⟨_, rfl, tup2 (symV .same .same .same) .same⟩, trivial⟩ (allRz rfl rfl rfl rfl rfl rfl (rst_keep rfl rfl) (.keepA) (us_keep))⟩
 ·refine W0 ?_
  refine awp_cut (fun _ : Unit => mkStK 51 [(0, .ptr 200 0 7 0 0), (3, .ptr 3 0 5 0 0), (4, .ptr 4 0 3 0 0), (6, .ptr 6 0 3 0 0), (7, i64 (if (findS s.syms x.arg.nm).isSome then 0 else 7))] ((3, lineO x) :: (4, symB sz0) :: (6, symB ((findS s.syms x.arg.nm).getD sz0)) :: refH s g) kpR) (fun _ => True) (fun K hK => ?_) (fun _ _ => ?_)
  ·refine awp_tree tab_ok mixed [0, 1, 2, 4, 5, 8, 9, 10, 13] [3, 6] (.alt 0 (.alt 1 (.alt 2 (.alt 4 (.alt 5 (.br 3 (.br 6 (.br 7 (.alt 8 (.alt 9 (.alt 10 (.alt 11 (.alt 12 (.alt 13 .done)))))) (.alt 11 tb90)) (.alt 11 (.alt 6 tb90))) (.br 6 (.alt 11 (.alt 3 tb90)) (.alt 11 (.br 3 (.alt 6 tb90) (.skip (.alt 6 .dead))))))))))) (by kernel_rfl) (fun _ _ _ _ _ _ _ h => h) ?_
   conv => whnf
   repeat' (first | (refine W1 ?_) | exact trivial | (refine And2.mk ?_ ?_ <;> (conv => whnf)))
   all_goals refine CallK.flat [201] hf ⟨.frzA rfl rfl rfl, .same, trivial⟩ rfl ?_
   all_goals ((conv => whnf); repeat' (first | (refine W1 ?_) | exact trivial | (refine And2.mk ?_ ?_ <;> (conv => whnf))))
   all_goals exact hK _ () trivial (SubS.mkK [] rfl ⟨⟨_, rfl, .pq rfl⟩, ⟨_, rfl, .pq rfl⟩, ⟨_, rfl, .pq rfl⟩, ⟨_, rfl, .pq rfl⟩, ⟨_, rfl, .same⟩, trivial⟩ ⟨.inl ⟨_, _, rfl, rfl, rfl, line_box rfl rfl rfl rfl fun _ => rfl⟩, .inl ⟨_, _, rfl, rfl, rfl, symB_le rfl rfl rfl rfl .same .same .same⟩, .inl ⟨_, _, rfl, rfl, rfl, symB_le rfl rfl rfl rfl .same .same .same⟩, allRz rfl rfl rfl rfl rfl rfl (rst_keep rfl rfl) .keepA us_keep⟩)
  cases hF : findS s.syms x.arg.nm with
  | none =>
    have e : eqlR s x = (sz0, 7) := by unfold eqlR; rw [if_neg hk, hF]
    rw [e]
    refine pW ?_
    refine an (by simp) ?_
    refine W0 ?_
    exact ⟨_, _, ⟨rfl, rfl⟩, SubS.mkK [] rfl ⟨⟨_, rfl, tup2 (symV .same .same .same) .same⟩, trivial⟩ (allRz rfl rfl rfl rfl rfl rfl (rst_keep rfl rfl) (.keepA) (us_keep))⟩
  | some y =>
    have hy := hw.sy y (find_some hF).1
    refine pW ?_
    refine na (by simp) ?_
    refine W0 ?_
    refine awp_last tab_ok mixed ?_
    refine W0 ?_
    refine W0 ?_
    refine ⟨⟨by show inI64 (y.ad + x.arg.v); unfold inI64; omega⟩, ?_⟩
    refine W0 ?_
    refine c0f (f133 y.sp (y.ad + x.arg.v)) ⟨.same, .same, trivial⟩ rfl ?_
    refine W0 ?_
    refine tr (fun hv => ?_) fun hv => ?_
    ·have e : eqlR s x = (sz0, 3) := by unfold eqlR; rw [if_neg hk, hF]; exact if_pos (by simpa using hv)
     rw [e]
     refine W0 ?_
     exact ⟨_, _, ⟨rfl, rfl⟩, SubS.mkK [] rfl ⟨⟨_, rfl, tup2 (symV .same .same .same) .same⟩, trivial⟩ (allRz rfl rfl rfl rfl rfl rfl (rst_keep rfl rfl) (.keepA) (us_keep))⟩
    ·have e : eqlR s x = (⟨x.lab, y.sp, y.ad + x.arg.v⟩, 0) := by unfold eqlR; rw [if_neg hk, hF]; exact if_neg (by simpa using hv)
     rw [e]
     refine W0 ?_
     exact ⟨_, _, ⟨rfl, rfl⟩, SubS.mkK [] rfl ⟨⟨_, rfl, tup2 (symV .same .same .same) .same⟩, trivial⟩ (allRz rfl rfl rfl rfl rfl rfl (rst_keep rfl rfl) (.keepA) (us_keep))⟩
end Go.Proofs.YtkeecnoafjhhdaaGreatDoor
namespace Go.Proofs.YtkeecnoafjhhdaaGreatDoor
open Go Go.AM
attribute [local irreducible] AWP CallK PureCall SubS HeapCallK
def outP (R : Rs St) (r : AV) (Hout : List (Nat × AO)) : Prop :=
 match R with
 | .ok s1 => r = i64 0 ∧ ∃ g', Hout = refH s1 g'
 | .error e => r = i64 e ∧ ∃ s' g', Hout = refH s' g'
abbrev R3 (n : Nat) : Nat → Nat := renI [(200, 200), (201, 201), (202, 202)] n
theorem rst_keepR {H : Heap} {B : List Nat} {U : List (Nat × Nat)} {s : St} {g n : Nat} (h1 : lookL U 201 = some 201) (h2 : lookL U 202 = some 202) : OLe H B U (AO.ren (R3 n) (rst s g)) (rst s g) :=
 rstLe rfl rfl rfl rfl .same .same .same .same .same (.row _ _ _ _ _ _ _ _ _ h1 rfl rfl rfl) (.row _ _ _ _ _ _ _ _ _ h2 rfl rfl rfl)
theorem f87' (s : St) (g : Nat) (sn : List UInt8) (sp : Nat) (ad : Int) (hl : s.syms.length < 2 ^ 40) : HeapCallK Tryz.prog 87 [.ptr 200 0 7 0 0, (⟨sn, sp, ad⟩ : Sym).av] (refH s g)
  (fun r Hout => (findS s.syms sn = none ∧ r = bb true ∧ ∃ g', Hout = refH (addS s ⟨sn, sp, ad⟩) g') ∨ (∃ y, findS s.syms sn = some y ∧ r = bb false ∧ ∃ g', Hout = refH s g')) (fun _ _ => False) :=
 HeapCallK.imp (f87 s g ⟨sn, sp, ad⟩ hl) (fun r Hout hr => by
  obtain ⟨h1, g', h2⟩ := hr
  dsimp only at h1 h2
  cases hF : findS s.syms sn with
  | none => rw [hF] at h1 h2; exact .inl ⟨rfl, h1, g', h2⟩
  | some y => rw [hF] at h1 h2; exact .inr ⟨y, rfl, h1, g', h2⟩) (fun _ _ h => h)
set_option maxHeartbeats 2000000 in
theorem f82 (s : St) (g : Nat) (x : Line) (hl : s.syms.length < 2 ^ 40) (hw : Wf s) : HeapCallK Tryz.prog 82 [.ptr 200 0 7 0 0, x.av] (refH s g) (outP (aloneF s x)) (fun _ _ => False) := by
 refine HeapCallK.body tab_ok (by kernel_rfl) Tryz.func82 rfl rfl rfl ?_
 refine pW ?_
 refine pW ?_
 refine tr (fun hn => ?_) fun hn => ?_
 ·refine W0 ?_
  have e : aloneF s x = .ok s := by unfold aloneF; rw [if_pos hn]
  rw [e]
  exact ⟨_, _, ⟨rfl, g, rfl⟩, SubS.mkK [] rfl ⟨⟨_, rfl, .same⟩, trivial⟩ (allRz rfl rfl rfl rfl rfl rfl (rst_keep rfl rfl) (.keepA) (us_keep))⟩
 ·refine W0 ?_
  refine pW ?_
  refine W0 ?_
  refine tr (fun ho => ?_) fun ho => ?_
  ·refine W0 ?_
   have e : aloneF s x = .error 13 := by unfold aloneF; rw [if_neg hn, if_pos (by omega)]
   rw [e]
   exact ⟨_, _, ⟨rfl, s, g, rfl⟩, SubS.mkK [] rfl ⟨⟨_, rfl, .same⟩, trivial⟩ (allRz rfl rfl rfl rfl rfl rfl (rst_keep rfl rfl) (.keepA) (us_keep))⟩
  ·refine W0 ?_
   refine awp_seq ?_
   refine awp_seq ?_
   refine awp_tree tab_ok mixed [0, 1, 3, 7] [2] (.alt 0 (.alt 1 (.alt 3 (.br 2 (.alt 4 (.alt 5 (.alt 6 (.alt 7 .done)))) (.alt 4 (.alt 2 (.alt 5 (.alt 6 (.alt 7 .done))))))))) (by kernel_rfl) (fun _ _ _ _ _ _ _ h => h) ?_
   conv => whnf
   repeat' (first | (refine W1 ?_) | exact trivial | (refine And2.mk ?_ ?_ <;> (conv => whnf)))
   ·refine CallK.heapK (f46 s g hw) [] [(200, 200), (201, 201), (202, 202)] rfl rfl rfl ⟨.pq rfl, trivial⟩ (allRz rfl rfl rfl rfl rfl rfl (rst_keep rfl rfl) (.keepA) (us_keep)) 2000 rfl (fun r Hout hr => ?_) (fun r Hout hr => ?_)
    ·obtain ⟨rfl, rfl⟩ := hr
     conv => whnf
     repeat' (first | (refine W1 ?_) | exact trivial | (refine And2.mk ?_ ?_ <;> (conv => whnf)))
     refine CallK.heapK (f87' s g x.lab 2 (s.adr : Nat) hl) [] [(200, 200), (201, 201), (202, 202)] rfl rfl rfl ⟨.pq rfl, symV .same .same .same, trivial⟩ (allRz rfl rfl rfl rfl rfl rfl (rst_keepR rfl rfl) (.keepA) (us_keep)) 3000 rfl (fun r Hout hr => ?_) (fun r Hout hr => ?_)
     ·rcases hr with ⟨hF, rfl, g', rfl⟩ | ⟨y, hF, rfl, g', rfl⟩
      ·have e : aloneF s x = .ok (addS s ⟨x.lab, 2, (s.adr : Nat)⟩) := by unfold aloneF defS; rw [if_neg hn, if_neg (by omega), if_neg hn, hF]; rfl
       rw [e]
       conv => whnf
       repeat' (first | (refine W1 ?_) | exact trivial | (refine And2.mk ?_ ?_ <;> (conv => whnf)))
       refine awp_last tab_ok mixed ?_
       refine W0 ?_
       refine awp_last tab_ok mixed ?_
       refine W0 ?_
       exact ⟨_, _, ⟨rfl, g', rfl⟩, SubS.mkK [] rfl ⟨⟨_, rfl, .same⟩, trivial⟩ (allRz rfl rfl rfl rfl rfl rfl (rst_keepR rfl rfl) (.keepA) (us_keep))⟩
      ·have e : aloneF s x = .error 8 := by unfold aloneF defS; rw [if_neg hn, if_neg (by omega), if_neg hn, hF]
       rw [e]
       conv => whnf
       repeat' (first | (refine W1 ?_) | exact trivial | (refine And2.mk ?_ ?_ <;> (conv => whnf)))
       refine awp_last tab_ok mixed ?_
       refine W0 ?_
       exact ⟨_, _, ⟨rfl, s, g', rfl⟩, SubS.mkK [] rfl ⟨⟨_, rfl, .same⟩, trivial⟩ (allRz rfl rfl rfl rfl rfl rfl (rst_keepR rfl rfl) (.keepA) (us_keep))⟩
     ·exact hr.elim
    ·exact hr.elim
   ·refine CallK.heapK (f46 s g hw) [] [(200, 200), (201, 201), (202, 202)] rfl rfl rfl ⟨.pq rfl, trivial⟩ (allRz rfl rfl rfl rfl rfl rfl (rst_keep rfl rfl) (.keepA) (us_keep)) 2000 rfl (fun r Hout hr => ?_) (fun r Hout hr => ?_)
    ·obtain ⟨rfl, rfl⟩ := hr
     conv => whnf
     repeat' (first | (refine W1 ?_) | exact trivial | (refine And2.mk ?_ ?_ <;> (conv => whnf)))
     refine CallK.heapK (f87' s g x.lab 2 (s.adr : Nat) hl) [] [(200, 200), (201, 201), (202, 202)] rfl rfl rfl ⟨.pq rfl, symV .same .same .same, trivial⟩ (allRz rfl rfl rfl rfl rfl rfl (rst_keepR rfl rfl) (.keepA) (us_keep)) 3000 rfl (fun r Hout hr => ?_) (fun r Hout hr => ?_)
     ·rcases hr with ⟨hF, rfl, g', rfl⟩ | ⟨y, hF, rfl, g', rfl⟩
      ·have e : aloneF s x = .ok (addS s ⟨x.lab, 2, (s.adr : Nat)⟩) := by unfold aloneF defS; rw [if_neg hn, if_neg (by omega), if_neg hn, hF]; rfl
       rw [e]
       conv => whnf
       repeat' (first | (refine W1 ?_) | exact trivial | (refine And2.mk ?_ ?_ <;> (conv => whnf)))
       refine awp_last tab_ok mixed ?_
       refine W0 ?_
       refine awp_last tab_ok mixed ?_
       refine W0 ?_
       exact ⟨_, _, ⟨rfl, g', rfl⟩, SubS.mkK [] rfl ⟨⟨_, rfl, .same⟩, trivial⟩ (allRz rfl rfl rfl rfl rfl rfl (rst_keepR rfl rfl) (.keepA) (us_keep))⟩
      ·have e : aloneF s x = .error 8 := by unfold aloneF defS; rw [if_neg hn, if_neg (by omega), if_neg hn, hF]
       rw [e]
       conv => whnf
       repeat' (first | (refine W1 ?_) | exact trivial | (refine And2.mk ?_ ?_ <;> (conv => whnf)))
       refine awp_last tab_ok mixed ?_
       refine W0 ?_
       exact ⟨_, _, ⟨rfl, s, g', rfl⟩, SubS.mkK [] rfl ⟨⟨_, rfl, .same⟩, trivial⟩ (allRz rfl rfl rfl rfl rfl rfl (rst_keepR rfl rfl) (.keepA) (us_keep))⟩
     ·exact hr.elim
    ·exact hr.elim
def uA (s : St) : Nat → List Nat
 | 0 => s.used
 | i + 1 => uA s i ++ [s.adr + i]
theorem uA_eq (s : St) : ∀ i, uA s i = s.used ++ newA s i
 | 0 => (List.append_nil _).symm
 | i + 1 => by show uA s i ++ [s.adr + i] = _; rw [uA_eq s i, newA_succ, List.append_assoc]
theorem uA_mem {s : St} {i : Nat} : s.adr + i ∈ uA s i ↔ s.adr + i ∈ s.used := by rw [uA_eq]; exact used_mem
theorem us_put {H : Heap} {B : List Nat} {U : List (Nat × Nat)} {u : List Nat} {o : AO} {k k' : Nat} {v : Nat → AV} (e1 : o.E = 4) (e2 : o.gen = 0) (e3 : o.sz = 1) (e4 : o.n = 36864) (hk : k' = k) (hv : v 0 = bb true) (hf : o.f = setCells (usO u).f k' 0 1 v) : OLe H B U o (usO (u ++ [k])) := by
 refine ⟨e1.symm, e2.symm, e3.symm, Nat.le_of_eq e4.symm, fun i j hi hj => ?_⟩
 have hi : i < 36864 := hi
 have hj0 : j = 0 := by rw [e3] at hj; omega
 subst hj0 hk
 have e0 : (usO (u ++ [k'])).f i 0 = bb ((u ++ [k']).contains i) := by show AV.pv (.bool ((usedL (u ++ [k'])).getD i false)) = _; rw [used_g _ hi]; rfl
 rw [e0, hf]
 unfold setCells
 by_cases h : i = k'
 ·subst h
  rw [show Nat.beq i i = true from Nat.beq_refl i]
  have e5 : (u ++ [i]).contains i = true := by simp
  rw [e5]
  show VLe H B U (v 0) _
  rw [hv]; exact .same
 ·rw [show Nat.beq i k' = false by rw [← Bool.not_eq_true, Nat.beq_eq]; exact h]
  have e5 : (u ++ [k']).contains i = u.contains i := by simp [h]
  rw [e5]
  show VLe H B U ((usO u).f i 0) _
  have e6 : (usO u).f i 0 = bb (u.contains i) := by show AV.pv (.bool ((usedL u).getD i false)) = _; rw [used_g _ hi]; rfl
  rw [e6]; exact .same
def lpP (s : St) (p : List Sym × Nat) (n : Nat) (x : Line) (i : Nat) : ASt := mkStK 70 [(0, .ptr 200 0 7 0 0), (3, .ptr 3 0 5 0 0), (5, i64 n), (6, i64 (s.adr : Nat)), (7, i64 i)] ((3, lineO x) :: refH { s with syms := p.1, used := uA s i } p.2) kpR
set_option maxHeartbeats 2000000 in
theorem f89 (s : St) (g : Nat) (x : Line) (hl : s.syms.length < 2 ^ 40) (hw : Wf s) (ho : opK x.op ≠ 12) : HeapCallK Tryz.prog 89 [.ptr 200 0 7 0 0, x.av] (refH s g) (outP (place s x (cntK (opK x.op) x.op s.mark))) (fun _ _ => False) := by
 have hb := hw.bank
 have hf := hw.off
 obtain ⟨n, hn⟩ : ∃ n, cntK (opK x.op) x.op s.mark = n := ⟨_, rfl⟩
 have hn2 : n ≤ 2 := by rw [← hn]; unfold cntK; split; omega; split <;> omega
 have h45 := f45 s g x.op ho
 rw [hn] at h45 ⊢
 refine HeapCallK.body tab_ok (by kernel_rfl) Tryz.func89 rfl rfl rfl ?_
 refine pW ?_
 refine pW ?_
 refine CallK.heapK (h45) [] [(200, 200), (201, 201), (202, 202)] rfl rfl rfl ⟨.pq rfl, .same, trivial⟩ (allRz rfl rfl rfl rfl rfl rfl (rst_keep rfl rfl) (.keepA) (us_keep)) 2000 rfl (fun r Hout hr => ?_) (fun r Hout hr => ?_)
 ·obtain ⟨rfl, rfl⟩ := hr
  refine W0 ?_
  refine pW ?_
  refine W0 ?_
  refine ⟨⟨by show inI64 ((s.off : Int) + n); unfold inI64; omega⟩, ?_⟩
  refine W0 ?_
  refine tr (fun hc => ?_) fun hc => ?_
  ·have e : place s x n = .error 13 := place_full (by omega)
   rw [e]
   refine W0 ?_
   exact ⟨_, _, ⟨rfl, s, g, rfl⟩, SubS.mkK [] rfl ⟨⟨_, rfl, .same⟩, trivial⟩ (allRz rfl rfl rfl rfl rfl rfl (rst_keepR rfl rfl) (.keepA) (us_keep))⟩
  ·have hc' : ¬ 1024 < s.off + n := by omega
   refine W0 ?_
   refine pW ?_
   refine CallK.heapK (f46 s g hw) [] [(200, 200), (201, 201), (202, 202)] rfl rfl rfl ⟨.pq rfl, trivial⟩ (allRz rfl rfl rfl rfl rfl rfl (rst_keepR rfl rfl) (.keepA) (us_keep)) 3000 rfl (fun r Hout hr => ?_) (fun r Hout hr => ?_)
   ·obtain ⟨rfl, rfl⟩ := hr
    refine W0 ?_
    refine awp_cut (fun p : List Sym × Nat => mkStK 70 [(0, .ptr 200 0 7 0 0), (3, .ptr 3 0 5 0 0), (5, i64 n), (6, i64 (s.adr : Nat))] ((3, lineO x) :: refH { s with syms := p.1 } p.2) kpR) (fun p => defL s.syms x.lab 2 s.adr = some p.1) (fun K hK => ?_) (fun p hp => ?_)
    ·refine awp_last tab_ok mixed ?_
     refine W0 ?_
     refine tr (fun hlab => ?_) fun hlab => ?_
     ·refine W0 ?_
      refine W0 ?_
      refine CallK.heapK (f87' s g x.lab 2 (s.adr : Nat) hl) [] [(200, 200), (201, 201), (202, 202)] rfl rfl rfl ⟨.pq rfl, symV .same .same .same, trivial⟩ (allRz rfl rfl rfl rfl rfl rfl (rst_keepR rfl rfl) (.keepA) (us_keep)) 4000 rfl (fun r Hout hr => ?_) (fun r Hout hr => ?_)
      ·rcases hr with ⟨hF, rfl, g', rfl⟩ | ⟨y, hF, rfl, g', rfl⟩
       ·have hd : defL s.syms x.lab 2 (s.adr : Nat) = some (s.syms ++ [⟨x.lab, 2, (s.adr : Nat)⟩]) := by unfold defL; rw [if_neg hlab, hF]
        refine W0 ?_
        exact hK _ (s.syms ++ [⟨x.lab, 2, (s.adr : Nat)⟩], g') hd (SubS.mkK [] rfl ⟨⟨_, rfl, .pq rfl⟩, ⟨_, rfl, .pq rfl⟩, ⟨_, rfl, .same⟩, ⟨_, rfl, .same⟩, trivial⟩ ⟨.inl ⟨_, _, rfl, rfl, rfl, line_keep⟩, allRz rfl rfl rfl rfl rfl rfl (s := addS s ⟨x.lab, 2, (s.adr : Nat)⟩) (rst_keepR rfl rfl) .keepA us_keep⟩)
       ·have hd : defL s.syms x.lab 2 (s.adr : Nat) = none := by unfold defL; rw [if_neg hlab, hF]
        have e : place s x n = .error 8 := place_dup hc' hd
        rw [e]
        refine W0 ?_
        exact ⟨_, _, ⟨rfl, s, g', rfl⟩, SubS.mkK [] rfl ⟨⟨_, rfl, .same⟩, trivial⟩ (allRz rfl rfl rfl rfl rfl rfl (rst_keepR rfl rfl) (.keepA) (us_keep))⟩
      ·exact hr.elim
     ·have hd : defL s.syms x.lab 2 (s.adr : Nat) = some s.syms := by unfold defL; rw [if_pos hlab]
      refine W0 ?_
      exact hK _ (s.syms, g) hd (SubS.mkK [] rfl ⟨⟨_, rfl, .pq rfl⟩, ⟨_, rfl, .pq rfl⟩, ⟨_, rfl, .same⟩, ⟨_, rfl, .same⟩, trivial⟩ ⟨.inl ⟨_, _, rfl, rfl, rfl, line_box rfl rfl rfl rfl fun _ => rfl⟩, allRz rfl rfl rfl rfl rfl rfl (s := s) (rst_keepR rfl rfl) .keepA us_keep⟩)
    ·refine awp_last tab_ok mixed ?_
     refine W0 ?_
     refine ex_loop tab_ok mixed (fun i : Nat => i ≤ n ∧ ∀ j, j < i → s.adr + j ∉ s.used) (lpP s p n x) (fun i => n - i) 0 ⟨Nat.zero_le _, fun j hj => absurd hj (Nat.not_lt_zero j)⟩ (SubS.mkK [] rfl ⟨⟨_, rfl, .pq rfl⟩, ⟨_, rfl, .pq rfl⟩, ⟨_, rfl, .same⟩, ⟨_, rfl, .same⟩, ⟨_, rfl, .same⟩, trivial⟩ ⟨.inl ⟨_, _, rfl, rfl, rfl, line_keep⟩, allRz rfl rfl rfl rfl rfl rfl (rst_keep rfl rfl) .keepA us_keep⟩) ?_
     rintro i ⟨hi, hno⟩
     refine W0 ?_
     refine tr (fun hc => ?_) fun hc => ?_
     ·have hlt : i < n := by omega
      have hai : s.adr + i < 36864 := by unfold St.adr; omega
      refine W0 ?_
      refine W0 ?_
      refine ⟨⟨by unfold inI64; omega⟩, ?_⟩
      refine W0 ?_
      refine ⟨⟨by omega, by show (s.adr : Int) + i < 36864; omega, rfl⟩, ?_⟩
      refine W0 ?_
      refine ⟨⟨rfl, rfl, by show 0 + ((s.adr : Int) + i).toNat < 36864; omega, nle rfl⟩, ?_⟩
      refine W0 ?_
      have eg : (usedL (uA s i)).getD (0 + ((s.adr : Int) + i).toNat) false = (uA s i).contains (s.adr + i) := by
       rw [show 0 + ((s.adr : Int) + i).toNat = s.adr + i by omega]
       exact used_g _ hai
      refine ⟨fun h => ?_, fun h => ?_⟩
      ·have h := eg.symm.trans h
       have hu : s.adr + i ∈ s.used := uA_mem.mp (by simpa using h)
       have e : place s x n = .error 8 := place_used hc' hp hlt hu
       rw [e]
       refine W0 ?_
       exact ⟨_, _, ⟨rfl, _, _, rfl⟩, SubS.mkK [] rfl ⟨⟨_, rfl, .same⟩, trivial⟩ (allRz rfl rfl rfl rfl rfl rfl (rst_keep rfl rfl) (.keepA) (us_keep))⟩
      ·have h := eg.symm.trans h
       have hu : s.adr + i ∉ s.used := fun h' => by have := uA_mem.mpr h'; simp [this] at h
       refine W0 ?_
       refine W0 ?_
       refine ⟨⟨by unfold inI64; omega⟩, ?_⟩
       refine W0 ?_
       refine ⟨⟨by omega, by show (s.adr : Int) + i < 36864; omega, rfl⟩, ?_⟩
       refine W0 ?_
       refine ⟨⟨rfl, rfl, by show 0 + ((s.adr : Int) + i).toNat < 36864; omega, nle rfl⟩, ?_⟩
       refine W0 ?_
       refine ⟨⟨by unfold inI64; omega⟩, ?_⟩
       refine W0 ?_
       exact ⟨i + 1, ⟨hlt, fun j hj => by rcases Nat.lt_or_ge j i with h | h; exact hno j h; rw [show j = i by omega]; exact hu⟩, SubS.mkK [] rfl ⟨⟨_, rfl, .pq rfl⟩, ⟨_, rfl, .pq rfl⟩, ⟨_, rfl, .same⟩, ⟨_, rfl, .same⟩, ⟨_, rfl, .same⟩, trivial⟩ ⟨.inl ⟨_, _, rfl, rfl, rfl, line_keep⟩, allRz rfl rfl rfl rfl rfl rfl (rst_keep rfl rfl) .keepA (us_put (v := fun _ => bb true) (u := uA s i) (k := s.adr + i) (k' := 0 + ((s.adr : Int) + i).toNat) rfl rfl rfl rfl (by omega) rfl rfl)⟩, by omega⟩
     ·have hni : i = n := by omega
      subst hni
      have e : place s x i = .ok { s with syms := p.1, off := s.off + i, mark := decide (x.op = nXINDEX), used := uA s i } := by rw [uA_eq]; exact place_done hc' hp hno
      rw [e]
      refine W0 ?_
      refine W0 ?_
      refine ⟨⟨by show inI64 ((s.off : Int) + i); unfold inI64; omega⟩, ?_⟩
      refine W0 ?_
      refine W0 ?_
      exact ⟨_, _, ⟨rfl, p.2, rfl⟩, SubS.mkK [] rfl ⟨⟨_, rfl, .same⟩, trivial⟩ (allRz rfl rfl rfl rfl rfl rfl (rstLe rfl rfl rfl rfl .same .same .same .same (VLe.bool bdec) (.rq rfl) (.rq rfl)) (.keepA) (us_keep))⟩
   ·exact hr.elim
 ·exact hr.elim
end Go.Proofs.YtkeecnoafjhhdaaGreatDoor
namespace Go.Proofs.YtkeecnoafjhhdaaGreatDoor
open Go Go.AM
def tb121 : Tr := .alt 11 (.alt 12 (.alt 13 (.alt 14 .done)))
def tb126 : Tr := .br 6 (.alt 10 tb121) (.alt 10 (.alt 6 tb121))
def tb123 : Tr := .br 6 (.alt 9 (.alt 10 tb121)) (.alt 9 tb126)
def tb124 : Tr := .br 4 tb121 (.alt 11 (.alt 4 (.alt 12 (.alt 13 (.alt 14 .done)))))
def tb127 : Tr := .br 4 (.alt 9 (.alt 10 tb121)) (.alt 9 (.br 4 (.alt 10 tb121) (.alt 10 tb124)))
def tb1210 : Tr := .br 4 tb126 (.br 6 (.br 4 (.alt 10 tb121) (.alt 10 tb124)) (.alt 10 (.br 4 (.alt 6 tb121) (.alt 6 tb124))))
def tb122 : Tr := .br 4 tb123 (.br 6 tb127 (.alt 9 tb1210))
def tb125 : Tr := .alt 8 (.alt 9 (.alt 10 tb121))
def tb128 : Tr := .br 5 tb123 (.alt 9 (.br 5 tb126 (.alt 10 (.alt 5 (.alt 6 tb121)))))
def tb129 : Tr := .br 6 tb125 (.alt 8 tb123)
def tb120 : Tr := .alt 0 (.alt 1 (.alt 2 (.alt 3 (.br 4 (.br 5 (.br 6 (.alt 7 tb125) (.alt 7 tb129)) (.alt 7 (.br 5 tb129 (.alt 8 tb128)))) (.br 5 (.br 4 (.br 6 (.alt 7 tb125) (.alt 7 tb129)) (.br 6 (.br 4 (.alt 7 tb125) (.alt 7 (.br 4 tb125 (.alt 8 tb127)))) (.alt 7 (.br 4 tb129 (.br 6 (.br 4 tb125 (.alt 8 tb127)) (.alt 8 tb122)))))) (.alt 7 (.br 4 (.br 5 tb129 (.alt 8 tb128)) (.br 5 (.br 4 tb129 (.br 6 (.br 4 tb125 (.alt 8 tb127)) (.alt 8 tb122))) (.alt 8 (.br 4 tb128 (.br 5 tb122 (.alt 9 (.br 4 (.br 5 tb126 (.alt 10 (.alt 5 (.alt 6 tb121)))) (.br 5 tb1210 (.alt 10 (.br 4 (.alt 5 (.alt 6 tb121)) (.alt 5 (.br 4 (.alt 6 tb121) (.alt 6 tb124)))))))))))))))))))
attribute [local irreducible] AWP CallK PureCall SubS HeapCallK
theorem outP_elim {R : Rs St} {r : AV} {Hout : List (Nat × AO)} (h : outP R r Hout) : ∃ (e : Int) (s' : St) (g' : Nat), r = i64 e ∧ Hout = refH s' g' ∧ outP R (i64 e) (refH s' g') := by
 cases R with
 | ok s1 => obtain ⟨rfl, g', rfl⟩ := h; exact ⟨0, s1, g', rfl, rfl, rfl, g', rfl⟩
 | error e => obtain ⟨rfl, s', g', rfl⟩ := h; exact ⟨e, s', g', rfl, rfl, rfl, s', g', rfl⟩
theorem eql_ne {s : St} {x : Line} {y : Sym} {e : Int} (h : eqlR s x = (y, e)) (hne : ¬ e = 0) : equalsF s x = .error e := by
 unfold eqlR at h
 unfold equalsF
 by_cases hk : x.arg.k = 1
 ·rw [if_pos hk] at h
  exact absurd (Prod.mk.inj h).2.symm hne
 rw [if_neg hk] at h ⊢
 cases hF : findS s.syms x.arg.nm with
 | none => rw [hF] at h; rw [← (Prod.mk.inj h).2]
 | some z =>
   rw [hF] at h
   dsimp only at h ⊢
   by_cases hv : valS z.sp (z.ad + x.arg.v) = false
   ·rw [if_pos hv] at h ⊢; rw [← (Prod.mk.inj h).2]
   ·rw [if_neg hv] at h; exact absurd (Prod.mk.inj h).2.symm hne
theorem eql_ok {s : St} {x : Line} {y : Sym} (hl : ¬ x.lab = []) (h : eqlR s x = (y, 0)) : y = ⟨x.lab, y.sp, y.ad⟩ ∧ equalsF s x = match findS s.syms x.lab with | some _ => .error 8 | none => .ok (addS s ⟨x.lab, y.sp, y.ad⟩) := by
 unfold eqlR at h
 unfold equalsF defS
 by_cases hk : x.arg.k = 1
 ·rw [if_pos hk] at h
  obtain rfl := (Prod.mk.inj h).1
  refine ⟨rfl, ?_⟩
  rw [if_pos hk, if_neg hl]
  cases findS s.syms x.lab <;> rfl
 rw [if_neg hk] at h ⊢
 cases hF : findS s.syms x.arg.nm with
 | none => rw [hF] at h; exact absurd (Prod.mk.inj h).2 (by decide)
 | some z =>
   rw [hF] at h
   dsimp only at h ⊢
   by_cases hv : valS z.sp (z.ad + x.arg.v) = false
   ·rw [if_pos hv] at h; exact absurd (Prod.mk.inj h).2 (by decide)
   ·rw [if_neg hv] at h
    obtain rfl := (Prod.mk.inj h).1
    refine ⟨rfl, ?_⟩
    rw [if_neg hv, if_neg hl]
    cases findS s.syms x.lab <;> rfl
theorem nb {b : Bool} (h : (!b) = false) : b = true := by cases b <;> simp_all
theorem alw_two {f : Frm} {l : Line} (h : alwB f l = true) (h2 : f.sy = false) : ¬ l.arg.k = 2 := by
 intro hk
 unfold alwB at h
 rw [hk, h2] at h
 split at h
 ·cases h
 ·cases h
theorem alw_lab {f : Frm} {l : Line} (h : alwB f l = true) (h2 : f.lb = 2) : ¬ l.lab = [] := by
 intro hl
 unfold alwB at h
 rw [if_pos (.inl ⟨hl, h2⟩)] at h
 cases h
def frmB (F : Frm) : AO := ⟨158, 0, 6, 1, fun _ j => getL [bb F.no, bb F.nu, bb F.sy, i64 F.lb, i64 F.lo, i64 F.hi] j⟩
theorem frmB_le {H : Heap} {B : List Nat} {U : List (Nat × Nat)} {o : AO} {F : Frm} (e1 : o.E = 158) (e2 : o.gen = 0) (e3 : o.sz = 6) (e4 : o.n = 1) (h0 : VLe H B U (o.f 0 0) (bb F.no)) (h1 : VLe H B U (o.f 0 1) (bb F.nu)) (h2 : VLe H B U (o.f 0 2) (bb F.sy)) (h3 : VLe H B U (o.f 0 3) (i64 F.lb)) (h4 : VLe H B U (o.f 0 4) (i64 F.lo)) (h5 : VLe H B U (o.f 0 5) (i64 F.hi)) : OLe H B U o (frmB F) :=
 ⟨e1.symm, e2.symm, e3.symm, Nat.le_of_eq e4.symm, fun i j hi hj => by
   have hi0 : i = 0 := Nat.lt_one_iff.mp hi
   subst hi0
   rw [e3] at hj
   match j, hj with
   | 0, _ => exact h0
   | 1, _ => exact h1
   | 2, _ => exact h2
   | 3, _ => exact h3
   | 4, _ => exact h4
   | 5, _ => exact h5⟩
def stpS (s : St) (g : Nat) (x : Line) : ASt := mkStK 161 [(0, .ptr 200 0 7 0 0), (3, .ptr 3 0 5 0 0)] ((3, lineO x) :: refH s g) kpR
def stfS (s : St) (g : Nat) (x : Line) (F : Frm) : ASt := mkStK 161 [(0, .ptr 200 0 7 0 0), (3, .ptr 3 0 5 0 0), (7, .ptr 7 0 6 0 0)] ((3, lineO x) :: (7, frmB F) :: refH s g) kpR
set_option maxHeartbeats 4000000 in
theorem f47 (s : St) (g : Nat) (x : Line) (hx : LineB x) (hl : s.syms.length < 2 ^ 40) (hw : Wf s) : HeapCallK Tryz.prog 47 [.ptr 200 0 7 0 0, x.av] (refH s g) (outP (stepF s x)) (fun _ _ => False) := by
 have h0 := nm_of (k := 0) (n := x.op) (by decide)
 have h1 := nm_of (k := 1) (n := x.op) (by decide)
 have h2 := nm_of (k := 2) (n := x.op) (by decide)
 have h3 := nm_of (k := 3) (n := x.op) (by decide)
 have h4 := nm_of (k := 4) (n := x.op) (by decide)
 have h5 := nm_of (k := 5) (n := x.op) (by decide)
 have hb := hw.bank
 have hf := hw.off
 refine HeapCallK.body tab_ok (by kernel_rfl) Tryz.func47 rfl rfl rfl ?_
 refine pW ?_
 refine pW ?_
 refine c0f (tk24 x hx) ⟨lineV .same .same .same .same .same, trivial⟩ rfl ?_
 refine W0 ?_
 refine pW ?_
 refine tr (fun hp => ?_) fun hp => ?_
 ·have e : stepF s x = .error 2 := by unfold stepF; rw [if_pos hp]
  rw [e]
  refine W0 ?_
  exact ⟨_, _, ⟨rfl, s, g, rfl⟩, SubS.mkK [] rfl ⟨⟨_, rfl, .same⟩, trivial⟩ (allRz rfl rfl rfl rfl rfl rfl (rst_keep rfl rfl) (.keepA) (us_keep))⟩
 ·have hp' : ¬ (print x).2 ≠ 0 := fun h => h hp
  obtain ⟨hkk, hv1, hv2⟩ := prn_ok hp
  refine W0 ?_
  refine pW ?_
  refine tr (fun hop => ?_) fun hop => ?_
  ·have e : stepF s x = aloneF s x := by unfold stepF; rw [if_neg hp', if_pos hop]
   rw [e]
   refine W0 ?_
   refine CallK.heapK (f82 s g x hl hw) [] [(200, 200), (201, 201), (202, 202)] rfl rfl rfl ⟨.pq rfl, lineV .same .same .same .same .same, trivial⟩ (allRz rfl rfl rfl rfl rfl rfl (rst_keep rfl rfl) (.keepA) (us_keep)) 2000 rfl (fun r Hout hr => ?_) (fun r Hout hr => ?_)
   ·obtain ⟨e, s', g', rfl, rfl, hpost⟩ := outP_elim hr
    refine W0 ?_
    exact ⟨_, _, hpost, SubS.mkK [] rfl ⟨⟨_, rfl, .same⟩, trivial⟩ (allRz rfl rfl rfl rfl rfl rfl (rst_keepR rfl rfl) (.keepA) (us_keep))⟩
   ·exact hr.elim
  ·refine W0 ?_
   have h83 := f83 x.op
   by_cases h12 : opK x.op = 12
   ·have e : stepF s x = .error 7 := by unfold stepF; rw [if_neg hp', if_neg hop, if_pos h12]
    have e2 : formV x.op = tupV [frmV ⟨false, false, false, 0, 0, 0⟩, bb false] := by unfold formV; rw [h12]; rfl
    rw [e2] at h83
    rw [e]
    refine pW ?_
    refine c0f h83 ⟨.same, trivial⟩ rfl ?_
    refine W0 ?_
    refine pW ?_
    exact ⟨_, _, ⟨rfl, s, g, rfl⟩, SubS.mkK [] rfl ⟨⟨_, rfl, .same⟩, trivial⟩ (allRz rfl rfl rfl rfl rfl rfl (rst_keep rfl rfl) (.keepA) (us_keep))⟩
   ·obtain ⟨F, hF⟩ : ∃ F, frmK (opK x.op) x.op = F := ⟨_, rfl⟩
    have e2 : formV x.op = tupV [frmV F, bb true] := by unfold formV; rw [if_neg h12, decide_eq_true h12, hF]
    rw [e2] at h83
    refine pW ?_
    refine c0f h83 ⟨.same, trivial⟩ rfl ?_
    refine W0 ?_
    refine pW ?_
    refine awp_cut (fun _ : Unit => stfS s g x F) (fun _ => alwB F x = true) (fun K hK => ?_) (fun _ ha => ?_)
    ·refine awp_last tab_ok mixed ?_
     refine W0 ?_
     refine c0f (f84 F x) ⟨frmV_le .same .same .same .same .same .same, lineV .same .same .same .same .same, trivial⟩ rfl ?_
     refine W0 ?_
     refine tr (fun ha => ?_) fun ha => ?_
     ·have e : stepF s x = .error 5 := by unfold stepF; rw [if_neg hp', if_neg hop, if_neg h12, hF, if_pos (by simpa using ha)]
      rw [e]
      refine W0 ?_
      exact ⟨_, _, ⟨rfl, s, g, rfl⟩, SubS.mkK [] rfl ⟨⟨_, rfl, .same⟩, trivial⟩ (allRz rfl rfl rfl rfl rfl rfl (rst_keep rfl rfl) (.keepA) (us_keep))⟩
     ·refine W0 ?_
      refine hK _ () (by simpa using ha) (SubS.mkK [] rfl ⟨⟨_, rfl, .pq rfl⟩, ⟨_, rfl, .pq rfl⟩, ⟨_, rfl, .pq rfl⟩, trivial⟩ ⟨.inl ⟨_, _, rfl, rfl, rfl, line_box rfl rfl rfl rfl fun _ => rfl⟩, .inl ⟨_, _, rfl, rfl, rfl, frmB_le rfl rfl rfl rfl .same .same .same .same .same .same⟩, allRz rfl rfl rfl rfl rfl rfl (rst_keep rfl rfl) .keepA us_keep⟩)
    ·have ha' : ¬ alwB F x = false := by rw [ha]; decide
     refine awp_cut (fun _ : Unit => stpS s g x) (fun _ => ¬ (x.arg.k = 1 ∧ ¬ (F.lo ≤ x.arg.v ∧ x.arg.v ≤ F.hi))) (fun K hK => ?_) (fun _ hr => ?_)
     ·refine awp_last tab_ok mixed ?_
      refine W0 ?_
      refine tr (fun hk1 => ?_) fun hk1 => ?_
      ·refine W0 ?_
       refine c0f (f59 x.arg.v F.lo F.hi) ⟨.same, .same, .same, trivial⟩ rfl ?_
       refine W0 ?_
       refine tr (fun hin => ?_) fun hin => ?_
       ·have hin' : ¬ (F.lo ≤ x.arg.v ∧ x.arg.v ≤ F.hi) := by simpa using hin
        have e : stepF s x = .error 3 := by unfold stepF; rw [if_neg hp', if_neg hop, if_neg h12, hF, if_neg ha', if_pos ⟨hk1, hin'⟩]
        rw [e]
        refine W0 ?_
        exact ⟨_, _, ⟨rfl, s, g, rfl⟩, SubS.mkK [] rfl ⟨⟨_, rfl, .same⟩, trivial⟩ (allRz rfl rfl rfl rfl rfl rfl (rst_keep rfl rfl) (.keepA) (us_keep))⟩
       ·refine W0 ?_
        exact hK _ () (fun h => h.2 (by simpa using hin)) (SubS.mkK [] rfl ⟨⟨_, rfl, .pq rfl⟩, ⟨_, rfl, .pq rfl⟩, trivial⟩ ⟨.inl ⟨_, _, rfl, rfl, rfl, line_keep⟩, allRz rfl rfl rfl rfl rfl rfl (rst_keep rfl rfl) .keepA us_keep⟩)
      ·refine W0 ?_
       exact hK _ () (fun h => hk1 h.1) (SubS.mkK [] rfl ⟨⟨_, rfl, .pq rfl⟩, ⟨_, rfl, .pq rfl⟩, trivial⟩ ⟨.inl ⟨_, _, rfl, rfl, rfl, line_keep⟩, allRz rfl rfl rfl rfl rfl rfl (rst_keep rfl rfl) .keepA us_keep⟩)
     ·have had : Adm x := ⟨hp, hop, h12, by rw [hF]; exact ha, fun h1 => by rw [hF]; exact Classical.not_not.mp fun hn => hr ⟨h1, hn⟩⟩
      rw [step_adm had, doF_k]
      refine awp_seq ?_
      refine pW ?_
      refine awp_block ?_
      refine pW ?_
      refine awp_cond (b := (x.op == nBANK)) rfl (fun h => ?_) (fun h => ?_)
      ·have hk : opK x.op = 0 := of_decide_eq_true (h0.symm.trans h)
       rw [hk]
       rw [hk] at hF
       subst hF
       have hkn : x.arg.k = 1 := alw_num ha rfl rfl
       have hv : 0 ≤ x.arg.v ∧ x.arg.v ≤ 35 := Classical.not_not.mp fun hn => hr ⟨hkn, hn⟩
       refine awp_last tab_ok mixed ?_
       refine W0 ?_
       refine CallK.heapK (f85 { s with bank := x.arg.v.toNat } g x.arg.v.toNat (by omega)) [] [(200, 200), (201, 201), (202, 202)] rfl rfl rfl ⟨.pq rfl, VLe.int (by omega), trivial⟩ (allRz rfl rfl rfl rfl rfl rfl (rstLe rfl rfl rfl rfl (VLe.int (by show x.arg.v = ((x.arg.v.toNat : Nat) : Int); omega)) .same .same .same .same (.rq rfl) (.rq rfl)) (.keepA) (us_keep)) 2000 rfl (fun r Hout hr => ?_) (fun r Hout hr => ?_)
       ·obtain ⟨rfl, rfl⟩ := hr
        refine W0 ?_
        refine W0 ?_
        exact ⟨_, _, ⟨rfl, g, rfl⟩, SubS.mkK [] rfl ⟨⟨_, rfl, .same⟩, trivial⟩ (allRz rfl rfl rfl rfl rfl rfl (rstLe rfl rfl rfl rfl .same .same .same .same .same (.rq rfl) (.rq rfl)) (.keepA) (us_keep))⟩
       ·exact hr.elim
      have hk0 : opK x.op ≠ 0 := of_decide_eq_false (h0.symm.trans h)
      refine pW ?_
      refine awp_cond (b := (x.op == nLOC)) rfl (fun h => ?_) (fun h => ?_)
      ·have hk : opK x.op = 1 := of_decide_eq_true (h1.symm.trans h)
       rw [hk]
       rw [hk] at hF
       subst hF
       have hkn : x.arg.k = 1 := alw_num ha rfl rfl
       have hv : 0 ≤ x.arg.v ∧ x.arg.v ≤ 36863 := Classical.not_not.mp fun hn => hr ⟨hkn, hn⟩
       have hq1 : x.arg.v.tdiv 1024 = ((x.arg.v.toNat / 1024 : Nat) : Int) := by rw [Int.tdiv_eq_ediv_of_nonneg hv.1]; omega
       have hq2 : x.arg.v.tmod 1024 = ((x.arg.v.toNat % 1024 : Nat) : Int) := by rw [Int.tmod_eq_emod_of_nonneg hv.1]; omega
       refine awp_last tab_ok mixed ?_
       refine W0 ?_
       refine W0 ?_
       refine ⟨⟨by rw [hq1]; unfold inI64; omega⟩, ?_⟩
       refine W0 ?_
       refine W0 ?_
       refine ⟨⟨by decide⟩, ?_⟩
       refine W0 ?_
       refine W0 ?_
       exact ⟨_, _, ⟨rfl, g, rfl⟩, SubS.mkK [] rfl ⟨⟨_, rfl, .same⟩, trivial⟩ (allRz rfl rfl rfl rfl rfl rfl (rstLe rfl rfl rfl rfl (VLe.int hq1) (VLe.int hq2) .same .same .same (.rq rfl) (.rq rfl)) (.keepA) (us_keep))⟩
      have hk1 : opK x.op ≠ 1 := of_decide_eq_false (h1.symm.trans h)
      refine pW ?_
      refine awp_cond (b := (x.op == nEBANK)) rfl (fun h => ?_) (fun h => ?_)
      ·have hk : opK x.op = 2 := of_decide_eq_true (h2.symm.trans h)
       rw [hk]
       rw [hk] at hF
       subst hF
       have hkn : x.arg.k = 1 := alw_num ha rfl rfl
       have hv : 0 ≤ x.arg.v ∧ x.arg.v ≤ 7 := Classical.not_not.mp fun hn => hr ⟨hkn, hn⟩
       refine awp_last tab_ok mixed ?_
       refine W0 ?_
       refine W0 ?_
       exact ⟨_, _, ⟨rfl, g, rfl⟩, SubS.mkK [] rfl ⟨⟨_, rfl, .same⟩, trivial⟩ (allRz rfl rfl rfl rfl rfl rfl (rstLe rfl rfl rfl rfl .same .same .same (VLe.int (by show x.arg.v = ((x.arg.v.toNat : Nat) : Int); omega)) .same (.rq rfl) (.rq rfl)) (.keepA) (us_keep))⟩
      have hk2 : opK x.op ≠ 2 := of_decide_eq_false (h2.symm.trans h)
      refine pW ?_
      refine awp_cond (b := (x.op == nELOC)) rfl (fun h => ?_) (fun h => ?_)
      ·have hk : opK x.op = 3 := of_decide_eq_true (h3.symm.trans h)
       rw [hk]
       refine awp_last tab_ok mixed ?_
       refine W0 ?_
       refine W0 ?_
       exact ⟨_, _, ⟨rfl, g, rfl⟩, SubS.mkK [] rfl ⟨⟨_, rfl, .same⟩, trivial⟩ (allRz rfl rfl rfl rfl rfl rfl (rstLe rfl rfl rfl rfl .same .same .same .same .same (.rq rfl) (.rq rfl)) (.keepA) (us_keep))⟩
      have hk3 : opK x.op ≠ 3 := of_decide_eq_false (h3.symm.trans h)
      refine pW ?_
      refine awp_cond (b := (x.op == nERASE)) rfl (fun h => ?_) (fun h => ?_)
      ·have hk : opK x.op = 4 := of_decide_eq_true (h4.symm.trans h)
       rw [hk]
       rw [hk] at hF
       subst hF
       have her := hw.er
       have hk01 : x.arg.k = 0 ∨ x.arg.k = 1 := by
        rcases hkk with h | h | h
        ·exact .inl h
        ·exact .inr h
        ·exact absurd h (alw_two ha rfl)
       have hN : (if x.arg.k = 0 then 1 else x.arg.v) = eraseN x := by unfold eraseN; rcases hk01 with h | h <;> rw [h] <;> rfl
       have hf86 := f86 x
       rw [hN] at hf86
       have hn : -65535 ≤ eraseN x ∧ eraseN x ≤ 65535 := by unfold eraseN; split <;> omega
       refine awp_cut (fun _ : Unit => stpS s g x) (fun _ => s.er + eraseN x ≤ 2048) (fun K hK => ?_) (fun _ hN2 => ?_)
       ·refine awp_seq ?_
        refine awp_tree tab_ok mixed [0, 1, 2, 6, 7] [3, 4] (.alt 0 (.alt 1 (.alt 2 (.br 3 (.alt 4 (.alt 5 (.alt 6 (.alt 7 .done)))) (.alt 4 (.alt 5 (.alt 3 (.alt 6 (.alt 7 .done))))))))) (by kernel_rfl) (fun _ _ _ _ _ _ _ h => h) ?_
        conv => whnf
        repeat' (first | (refine W1 ?_) | exact trivial | (refine And2.mk ?_ ?_ <;> (conv => whnf)))
        all_goals refine c0f hf86 ⟨lineV .same .same .same .same .same, trivial⟩ rfl ?_
        all_goals ((conv => whnf); repeat' (first | (refine W1 ?_) | exact trivial | (refine And2.mk ?_ ?_ <;> (conv => whnf))))
        all_goals refine ⟨⟨by show inI64 (s.er + eraseN x); unfold inI64; omega⟩, ?_⟩
        all_goals ((conv => whnf); repeat' (first | (refine W1 ?_) | exact trivial | (refine And2.mk ?_ ?_ <;> (conv => whnf))))
        all_goals refine awp_last tab_ok mixed ?_
        all_goals (refine W0 ?_)
        all_goals refine ⟨fun h => ?_, fun h => ?_⟩
        all_goals replace h := nm h
        all_goals (refine W0 ?_)
        ·have e : eraseF s x = .error 13 := by unfold eraseF; rw [if_pos (by omega)]
         rw [show doK 4 s x = .error 13 from e]
         exact ⟨_, _, ⟨rfl, s, g, rfl⟩, SubS.mkK [] rfl ⟨⟨_, rfl, .same⟩, trivial⟩ (allRz rfl rfl rfl rfl rfl rfl (rst_keep rfl rfl) (.keepA) (us_keep))⟩
        ·exact hK _ () (by omega) (SubS.mkK [] rfl ⟨⟨_, rfl, .pq rfl⟩, ⟨_, rfl, .pq rfl⟩, trivial⟩ ⟨.inl ⟨_, _, rfl, rfl, rfl, line_keep⟩, allRz rfl rfl rfl rfl rfl rfl (rst_keep rfl rfl) .keepA us_keep⟩)
        ·have e : eraseF s x = .error 13 := by unfold eraseF; rw [if_pos (by omega)]
         rw [show doK 4 s x = .error 13 from e]
         exact ⟨_, _, ⟨rfl, s, g, rfl⟩, SubS.mkK [] rfl ⟨⟨_, rfl, .same⟩, trivial⟩ (allRz rfl rfl rfl rfl rfl rfl (rst_keep rfl rfl) (.keepA) (us_keep))⟩
        ·exact hK _ () (by omega) (SubS.mkK [] rfl ⟨⟨_, rfl, .pq rfl⟩, ⟨_, rfl, .pq rfl⟩, trivial⟩ ⟨.inl ⟨_, _, rfl, rfl, rfl, line_keep⟩, allRz rfl rfl rfl rfl rfl rfl (rst_keep rfl rfl) .keepA us_keep⟩)
       refine awp_cut (fun p : List Sym × Nat => stpS { s with syms := p.1 } p.2 x) (fun p => defL s.syms x.lab 1 s.er = some p.1) (fun K hK => ?_) (fun p hd => ?_)
       ·refine awp_seq ?_
        by_cases hlab : x.lab = []
        ·have hd : defL s.syms x.lab 1 s.er = some s.syms := by unfold defL; rw [if_pos hlab]
         refine awp_tree tab_ok mixed [0, 2, 3] [1, 14] tb120 (by kernel_rfl) (fun _ _ _ _ _ _ _ h => h) ?_
         conv => whnf
         repeat' (first | (refine W1 ?_) | exact trivial | (refine And2.mk ?_ ?_ <;> (conv => whnf)))
         all_goals refine ⟨fun h => absurd h (by rw [hlab]; decide), fun h => ?_⟩
         all_goals ((conv => whnf); repeat' (first | (refine W1 ?_) | exact trivial | (refine And2.mk ?_ ?_ <;> (conv => whnf))))
         all_goals refine awp_last tab_ok mixed ?_
         all_goals (refine W0 ?_)
         all_goals exact hK _ (s.syms, g) hd (SubS.mkK [] rfl ⟨⟨_, rfl, .pq rfl⟩, ⟨_, rfl, .pq rfl⟩, trivial⟩ ⟨.inl ⟨_, _, rfl, rfl, rfl, line_keep⟩, allRz rfl rfl rfl rfl rfl rfl (rst_keep rfl rfl) .keepA us_keep⟩)
        ·have hlb : (x.lab == []) = false := by simp [hlab]
         have e8 : ∀ y, findS s.syms x.lab = some y → ∀ g', outP (doK 4 s x) (i64 8) (refH s g') := fun y hF g' => by
          have e : eraseF s x = .error 8 := by unfold eraseF defS; rw [if_neg (by omega), if_neg hlab, hF]
          rw [show doK 4 s x = .error 8 from e]
          exact ⟨rfl, s, g', rfl⟩
         have e0 : findS s.syms x.lab = none → defL s.syms x.lab 1 s.er = some (s.syms ++ [⟨x.lab, 1, s.er⟩]) := fun hF => by unfold defL; rw [if_neg hlab, hF]
         refine awp_tree tab_ok mixed [0, 2, 3] [1, 14] tb120 (by kernel_rfl) (fun _ _ _ _ _ _ _ h => h) ?_
         conv => whnf
         repeat' (first | (refine W1 ?_) | exact trivial | (refine And2.mk ?_ ?_ <;> (conv => whnf)))
         all_goals refine ⟨fun h => ?_, fun h => absurd (hlb.symm.trans (nb h)) (by decide)⟩
         all_goals ((conv => whnf); repeat' (first | (refine W1 ?_) | exact trivial | (refine And2.mk ?_ ?_ <;> (conv => whnf))))
         all_goals (refine CallK.heapK (f87' s g x.lab 1 s.er hl) [] [(200, 200), (201, 201), (202, 202)] rfl rfl rfl ⟨.pq rfl, symV .same .same .same, trivial⟩ (allRz rfl rfl rfl rfl rfl rfl (rst_keep rfl rfl) (.keepA) (us_keep)) 3000 rfl (fun r Hout hr => ?_) (fun r Hout hr => ?_))
         all_goals try exact False.elim hr
         all_goals rcases hr with ⟨hF, rfl, g', rfl⟩ | ⟨y, hF, rfl, g', rfl⟩
         all_goals ((conv => whnf); repeat' (first | (refine W1 ?_) | exact trivial | (refine And2.mk ?_ ?_ <;> (conv => whnf))))
         all_goals refine awp_last tab_ok mixed ?_
         all_goals (refine W0 ?_)
         all_goals first
          | exact hK _ (s.syms ++ [⟨x.lab, 1, s.er⟩], g') (e0 hF) (SubS.mkK [] rfl ⟨⟨_, rfl, .pq rfl⟩, ⟨_, rfl, .pq rfl⟩, trivial⟩ ⟨.inl ⟨_, _, rfl, rfl, rfl, line_keep⟩, allRz rfl rfl rfl rfl rfl rfl (s := addS s ⟨x.lab, 1, s.er⟩) (rst_keepR rfl rfl) .keepA us_keep⟩)
          | exact ⟨_, _, e8 y hF g', SubS.mkK [] rfl ⟨⟨_, rfl, .same⟩, trivial⟩ (allRz rfl rfl rfl rfl rfl rfl (rst_keepR rfl rfl) .keepA us_keep)⟩
       ·refine awp_seq ?_
        refine awp_tree tab_ok mixed [0, 1, 2, 3, 7, 8, 9] [4, 5] (.alt 0 (.alt 1 (.alt 2 (.alt 3 (.br 4 (.alt 5 (.alt 6 (.alt 7 (.alt 8 (.alt 9 (.alt 10 .done)))))) (.alt 5 (.alt 6 (.alt 4 (.alt 7 (.alt 8 (.alt 9 (.alt 10 .done)))))))))))) (by kernel_rfl) (fun _ _ _ _ _ _ _ h => h) ?_
        conv => whnf
        repeat' (first | (refine W1 ?_) | exact trivial | (refine And2.mk ?_ ?_ <;> (conv => whnf)))
        all_goals refine c0f hf86 ⟨lineV .same .same .same .same .same, trivial⟩ rfl ?_
        all_goals ((conv => whnf); repeat' (first | (refine W1 ?_) | exact trivial | (refine And2.mk ?_ ?_ <;> (conv => whnf))))
        all_goals refine ⟨⟨by show inI64 (s.er + eraseN x); unfold inI64; omega⟩, ?_⟩
        all_goals ((conv => whnf); repeat' (first | (refine W1 ?_) | exact trivial | (refine And2.mk ?_ ?_ <;> (conv => whnf))))
        all_goals refine awp_last tab_ok mixed ?_
        all_goals (refine W0 ?_)
        all_goals rw [show doK 4 s x = .ok { s with syms := p.1, er := s.er + eraseN x } by show eraseF s x = _; unfold eraseF; rw [if_neg (by omega), defS_L, hd]; rfl]
        all_goals (exact ⟨_, _, ⟨rfl, p.2, rfl⟩, SubS.mkK [] rfl ⟨⟨_, rfl, .same⟩, trivial⟩ (allRz rfl rfl rfl rfl rfl rfl (rstLe rfl rfl rfl rfl .same .same .same .same .same (.rq rfl) (.rq rfl)) (.keepA) (us_keep))⟩)
      have hk4 : opK x.op ≠ 4 := of_decide_eq_false (h4.symm.trans h)
      refine pW ?_
      refine awp_cond (b := (x.op == nEQUALS)) rfl (fun h => ?_) (fun h => ?_)
      ·have hk : opK x.op = 5 := of_decide_eq_true (h5.symm.trans h)
       rw [hk]
       rw [hk] at hF
       subst hF
       have hlab := alw_lab ha rfl
       refine pW ?_
       refine CallK.heapK (f88 s g x hl hw ⟨hv1, hv2⟩) [] [(200, 200), (201, 201), (202, 202)] rfl rfl rfl ⟨.pq rfl, lineV .same .same .same .same .same, trivial⟩ (allRz rfl rfl rfl rfl rfl rfl (rst_keep rfl rfl) (.keepA) (us_keep)) 2000 rfl (fun r Hout hr => ?_) (fun r Hout hr => ?_)
       ·obtain ⟨rfl, rfl⟩ := hr
        refine W0 ?_
        obtain ⟨⟨yn, ysp, yad⟩, e, he⟩ : ∃ y e, eqlR s x = (y, e) := ⟨_, _, rfl⟩
        rw [he]
        refine pW ?_
        refine tr (fun hne => ?_) fun hne => ?_
        ·rw [show doK 5 s x = .error e from eql_ne he hne]
         refine W0 ?_
         exact ⟨_, _, ⟨rfl, s, g, rfl⟩, SubS.mkK [] rfl ⟨⟨_, rfl, .same⟩, trivial⟩ (allRz rfl rfl rfl rfl rfl rfl (rst_keepR rfl rfl) (.keepA) (us_keep))⟩
        ·subst hne
         obtain ⟨en, eq⟩ := eql_ok hlab he
         obtain rfl : yn = x.lab := congrArg Sym.nm en
         refine W0 ?_
         refine pW ?_
         refine CallK.heapK (f87' s g x.lab ysp yad hl) [] [(200, 200), (201, 201), (202, 202)] rfl rfl rfl ⟨.pq rfl, symV .same .same .same, trivial⟩ (allRz rfl rfl rfl rfl rfl rfl (rst_keepR rfl rfl) (.keepA) (us_keep)) 4000 rfl (fun r Hout hr => ?_) (fun r Hout hr => ?_)
         ·rcases hr with ⟨hF, rfl, g', rfl⟩ | ⟨z, hF, rfl, g', rfl⟩
          ·rw [show doK 5 s x = _ from eq, hF]
           refine W0 ?_
           refine awp_last tab_ok mixed ?_
           refine W0 ?_
           exact ⟨_, _, ⟨rfl, g', rfl⟩, SubS.mkK [] rfl ⟨⟨_, rfl, .same⟩, trivial⟩ (allRz rfl rfl rfl rfl rfl rfl (rst_keepR rfl rfl) (.keepA) (us_keep))⟩
          ·rw [show doK 5 s x = _ from eq, hF]
           refine W0 ?_
           exact ⟨_, _, ⟨rfl, s, g', rfl⟩, SubS.mkK [] rfl ⟨⟨_, rfl, .same⟩, trivial⟩ (allRz rfl rfl rfl rfl rfl rfl (rst_keepR rfl rfl) (.keepA) (us_keep))⟩
         ·exact hr.elim
       ·exact hr.elim
      have hk5 : opK x.op ≠ 5 := of_decide_eq_false (h5.symm.trans h)
      have e : doK (opK x.op) s x = place s x (cntK (opK x.op) x.op s.mark) := by
       revert hk0 hk1 hk2 hk3 hk4 hk5
       generalize opK x.op = k
       intro hk0 hk1 hk2 hk3 hk4 hk5
       unfold doK
       split <;> first | rfl | (exfalso; omega)
      rw [e]
      refine awp_last tab_ok mixed ?_
      refine W0 ?_
      refine awp_last tab_ok mixed ?_
      refine W0 ?_
      refine CallK.heapK (f89 s g x hl hw h12) [] [(200, 200), (201, 201), (202, 202)] rfl rfl rfl ⟨.pq rfl, lineV .same .same .same .same .same, trivial⟩ (allRz rfl rfl rfl rfl rfl rfl (rst_keep rfl rfl) (.keepA) (us_keep)) 2000 rfl (fun r Hout hr => ?_) (fun r Hout hr => ?_)
      ·obtain ⟨e, s', g', rfl, rfl, hpost⟩ := outP_elim hr
       refine W0 ?_
       exact ⟨_, _, hpost, SubS.mkK [] rfl ⟨⟨_, rfl, .same⟩, trivial⟩ (allRz rfl rfl rfl rfl rfl rfl (rst_keepR rfl rfl) (.keepA) (us_keep))⟩
      ·exact hr.elim
end Go.Proofs.YtkeecnoafjhhdaaGreatDoor
namespace Go.Proofs.YtkeecnoafjhhdaaGreatDoor
open Go Go.AM
attribute [local irreducible] AWP CallK PureCall SubS HeapCallK
theorem us_zero {H : Heap} {B : List Nat} {U : List (Nat × Nat)} {o : AO} (e1 : o.E = 4) (e2 : o.gen = 0) (e3 : o.sz = 1) (e4 : o.n = 36864) (hf : ∀ i, o.f i 0 = bb false) : OLe H B U o (usO []) :=
 ⟨e1.symm, e2.symm, e3.symm, Nat.le_of_eq e4.symm, fun i j hi hj => by
   have hi : i < 36864 := hi
   have hj0 : j = 0 := by rw [e3] at hj; omega
   subst hj0
   have e0 : (usO []).f i 0 = bb false := by show AV.pv (.bool ((usedL []).getD i false)) = _; rw [used_g _ hi]; rfl
   rw [e0, hf]; exact .same⟩
set_option maxHeartbeats 2000000 in
theorem f42 : HeapCallK Tryz.prog 42 [] [] (fun r Hout => r = .ptr 200 0 7 0 0 ∧ Hout = refH st0 0) (fun _ _ => False) := by
 refine HeapCallK.run tab_ok mixed (by kernel_rfl) Tryz.func42 rfl rfl rfl ?_
 refine W0 ?_
 refine ⟨⟨by decide, by decide, by decide, by decide⟩, ?_⟩
 refine W0 ?_
 refine ⟨_, _, ⟨rfl, rfl⟩, SubS.mkN [] [(200, 3), (202, 1)] rfl rfl rfl ⟨⟨_, rfl, .pq rfl⟩, trivial⟩ ⟨.inl ⟨_, _, rfl, rfl, rfl, rstLe rfl rfl rfl rfl .same .same .same .same .same (.void _ _ _) (.rq rfl)⟩, .inr (.inl ⟨rfl, rfl⟩), .inl ⟨_, _, rfl, rfl, rfl, us_zero rfl rfl rfl rfl fun _ => rfl⟩, trivial⟩⟩
end Go.Proofs.YtkeecnoafjhhdaaGreatDoor
namespace Go.Proofs.YtkeecnoafjhhdaaGreatDoor
open Go Go.AM
def tb141 : Tr := .br 9 (.alt 13 .dead) (.alt 13 .dead)
def tb140 : Tr := .alt 1 (.alt 2 (.alt 4 (.alt 6 (.alt 7 (.alt 8 (.alt 10 (.alt 11 (.alt 12 (.br 0 (.br 3 (.br 5 (.br 9 (.alt 13 (.alt 14 (.alt 15 (.alt 16 (.alt 17 (.alt 18 (.alt 19 .done))))))) (.skip (.alt 13 .dead))) (.skip tb141)) (.skip (.br 5 tb141 tb141))) (.skip (.br 3 (.br 5 tb141 tb141) (.br 5 tb141 tb141))))))))))))
def tb142 : Tr := .br 7 (.alt 11 .dead) (.alt 11 .dead)
attribute [local irreducible] AWP CallK PureCall SubS HeapCallK
theorem cnt_puts {k : Nat} {n : List UInt8} {m : Bool} : 0 < cntK k n m ↔ 6 ≤ k := by
 unfold cntK
 by_cases h : k ≤ 5
 ·rw [if_pos h]; omega
 ·rw [if_neg h]; split <;> omega
set_option maxHeartbeats 1000000 in
theorem f43 (s : St) (g : Nat) (x : Line) (ho : x.op = [] ∨ opK x.op ≠ 12) : HeapCallK Tryz.prog 43 [.ptr 200 0 7 0 0, x.av] (refH s g) (fun r Hout => r = bb (putsB x) ∧ Hout = refH s g) (fun _ _ => False) := by
 refine HeapCallK.run tab_ok mixed (by kernel_rfl) Tryz.func43 rfl rfl rfl ?_
 refine W0 ?_
 refine tr (fun hop => ?_) fun hop => ?_
 ·refine W0 ?_
  refine CallK.heapK (f45 s g x.op (ho.resolve_left hop)) [] [(200, 200), (201, 201), (202, 202)] rfl rfl rfl ⟨.pq rfl, .same, trivial⟩ (allRz rfl rfl rfl rfl rfl rfl (rst_keep rfl rfl) (.keepA) (us_keep)) 2000 rfl (fun r Hout hr => ?_) (fun r Hout hr => ?_)
  ·obtain ⟨rfl, rfl⟩ := hr
   refine W0 ?_
   exact ⟨_, _, ⟨rfl, rfl⟩, SubS.mkK [] rfl ⟨⟨_, rfl, VLe.bool (by unfold putsB; rw [decide_eq_true hop, Bool.true_and, decide_eq_decide]; have := cnt_puts (k := opK x.op) (n := x.op) (m := s.mark); omega)⟩, trivial⟩ (allRz rfl rfl rfl rfl rfl rfl (rst_keepR rfl rfl) (.keepA) (us_keep))⟩
  ·exact hr.elim
 ·refine W0 ?_
  exact ⟨_, _, ⟨rfl, rfl⟩, SubS.mkK [] rfl ⟨⟨_, rfl, VLe.bool (by unfold putsB; rw [decide_eq_false (fun h => h hop)]; rfl)⟩, trivial⟩ (allRz rfl rfl rfl rfl rfl rfl (rst_keep rfl rfl) (.keepA) (us_keep))⟩
theorem f77 (v : Int) (h : -16383 ≤ v ∧ v ≤ 16383) : PureCall Tryz.prog 77 [i64 v] (wdT (ofF v, 0)) := by
 refine pR (by kernel_rfl) Tryz.func77 rfl rfl rfl ?_
 refine tr (fun h1 => ?_) fun h1 => ?_
 ·refine W0 ?_
  refine tr (fun h2 => ?_) fun h2 => ?_
  ·omega
  ·refine W0 ?_
   refine tr (fun h3 => ?_) fun h3 => ?_
   ·refine W0 ?_
    refine ⟨⟨by unfold inI64; omega⟩, ?_⟩
    refine W0 ?_
    exact wdE (a := IntKind.u16.wrap (v + 32767)) rfl (by unfold ofF; rw [if_pos h3, w16]; omega) (by rfl) (by rfl)
   ·refine W0 ?_
    exact wdE (a := IntKind.u16.wrap v) rfl (by unfold ofF; rw [if_neg (by omega), w16]; omega) (by rfl) (by rfl)
 ·omega
def wrS (s : St) (g : Nat) (x : Line) (y : Sym) : ASt := mkStK 132 [(0, .ptr 200 0 7 0 0), (5, .ptr 5 0 5 0 0), (8, .ptr 8 0 3 0 0), (9, i64 0)] ((5, lineO x) :: (8, symB y) :: refH s g) kpR
set_option maxHeartbeats 4000000 in
theorem f44 (s : St) (g : Nat) (sy : List Sym) (x : Line) (_ : Wf s) (hl : sy.length < 2 ^ 47) (hs : ∀ y ∈ sy, y.sp ≤ 2 ∧ -65535 ≤ y.ad ∧ y.ad ≤ 65535) (ha : Adm x) (h6o : 6 ≤ opK x.op) : HeapCallK Tryz.prog 44 [.ptr 200 0 7 0 0, .pv (symsP sy), x.av] (refH s g) (fun r Hout => r = wdT (wordF s sy x) ∧ Hout = refH s g) (fun _ _ => False) := by
 have h6 := nm_of (k := 6) (n := x.op) (by decide)
 have h7 := nm_of (k := 7) (n := x.op) (by decide)
 have h8 := nm_of (k := 8) (n := x.op) (by decide)
 have h9 := nm_of (k := 9) (n := x.op) (by decide)
 have h10 := nm_of (k := 10) (n := x.op) (by decide)
 obtain ⟨hkk, hv1, hv2⟩ := prn_ok ha.pr
 have hal := ha.al
 have hrg := ha.rg
 have hf := f28 sy x.arg.nm hl
 refine HeapCallK.body tab_ok (by kernel_rfl) Tryz.func44 rfl rfl rfl ?_
 refine pW ?_
 refine pW ?_
 by_cases k6 : opK x.op = 6
 ·rw [decide_eq_true k6] at h6
  rw [k6] at hal hrg
  have hk1 : x.arg.k = 1 := alw_num hal rfl rfl
  have hv : 0 ≤ x.arg.v ∧ x.arg.v ≤ 32767 := hrg hk1
  have e : wordF s sy x = (x.arg.v.toNat, 0) := by unfold wordF; rw [if_pos k6]
  rw [e]
  refine ag h6 ?_
  refine W0 ?_
  exact ⟨_, _, ⟨rfl, rfl⟩, SubS.mkK [] rfl ⟨⟨_, rfl, tup2 (VLe.int (by show IntKind.u16.wrap x.arg.v = ((x.arg.v.toNat : Nat) : Int); rw [w16]; omega)) .same⟩, trivial⟩ (allRz rfl rfl rfl rfl rfl rfl (rst_keep rfl rfl) (.keepA) (us_keep))⟩
 rw [decide_eq_false k6] at h6
 refine af h6 ?_
 refine W0 ?_
 by_cases k7 : opK x.op = 7
 ·rw [decide_eq_true k7] at h7
  rw [k7] at hal hrg
  have hk1 : x.arg.k = 1 := alw_num hal rfl rfl
  have hv : -16383 ≤ x.arg.v ∧ x.arg.v ≤ 16383 := hrg hk1
  have e : wordF s sy x = (ofF x.arg.v, 0) := by unfold wordF; rw [if_neg k6, if_pos k7]; rfl
  rw [e]
  refine ag h7 ?_
  refine W0 ?_
  refine c0f (f77 x.arg.v hv) ⟨.same, trivial⟩ rfl ?_
  refine W0 ?_
  exact ⟨_, _, ⟨rfl, rfl⟩, SubS.mkK [] rfl ⟨⟨_, rfl, tup2 .same .same⟩, trivial⟩ (allRz rfl rfl rfl rfl rfl rfl (rst_keep rfl rfl) (.keepA) (us_keep))⟩
 rw [decide_eq_false k7] at h7
 refine af h7 ?_
 refine W0 ?_
 refine pW ?_
 refine pW ?_
 refine pW ?_
 refine tr (fun k2 => ?_) fun k2 => ?_
 ·refine W0 ?_
  cases hF : findS sy x.arg.nm with
  | none =>
    have e : wordF s sy x = (0, 7) := by unfold wordF; rw [if_neg k6, if_neg k7, if_pos k2, hF]
    rw [e]
    rw [hF] at hf
    refine c0f hf ⟨.same, .same, trivial⟩ rfl ?_
    refine W0 ?_
    refine pW ?_
    refine an (by simp) ?_
    refine W0 ?_
    exact ⟨_, _, ⟨rfl, rfl⟩, SubS.mkK [] rfl ⟨⟨_, rfl, tup2 .same .same⟩, trivial⟩ (allRz rfl rfl rfl rfl rfl rfl (rst_keep rfl rfl) (.keepA) (us_keep))⟩
  | some y =>
    have hy := hs y (find_some hF).1
    rw [hF] at hf
    refine c0f hf ⟨.same, .same, trivial⟩ rfl ?_
    refine W0 ?_
    refine pW ?_
    refine na (by simp) ?_
    refine W0 ?_
    refine awp_cut (fun _ : Unit => wrS s g x y) (fun _ => True) (fun K hK => ?_) (fun _ _ => ?_)
    ·refine awp_last tab_ok mixed ?_
     refine W0 ?_
     exact hK _ () trivial (SubS.mkK [] rfl ⟨⟨_, rfl, .pq rfl⟩, ⟨_, rfl, .pq rfl⟩, ⟨_, rfl, .pq rfl⟩, ⟨_, rfl, .same⟩, trivial⟩ ⟨.inl ⟨_, _, rfl, rfl, rfl, line_box rfl rfl rfl rfl fun _ => rfl⟩, .inl ⟨_, _, rfl, rfl, rfl, symB_le rfl rfl rfl rfl .same .same .same⟩, allRz rfl rfl rfl rfl rfl rfl (rst_keep rfl rfl) .keepA us_keep⟩)
    refine awp_seq ?_
    refine pW ?_
    refine awp_block ?_
    refine pW ?_
    refine awp_cond (b := (x.op == nADRES)) rfl (fun h => ?_) (fun h => ?_)
    ·have k8 : opK x.op = 8 := of_decide_eq_true (h8.symm.trans h)
     have hr := reach_rng y x.arg.v 3 s.eb s.bank
     have e : wordF s sy x = ((reachF y x.arg.v 3 s.eb s.bank).1.toNat, (reachF y x.arg.v 3 s.eb s.bank).2) := by unfold wordF; rw [if_neg k6, if_neg k7, if_pos k2, hF]; exact if_pos k8
     rw [e]
     refine awp_seq ?_
     refine awp_tree tab_ok mixed [1, 2, 4, 5, 6, 8, 9, 10, 13, 14, 15, 16, 17] [0, 3, 7, 11] (.alt 1 (.alt 2 (.alt 4 (.alt 5 (.alt 6 (.alt 8 (.alt 9 (.alt 10 (.br 0 (.br 3 (.br 7 (.alt 11 (.alt 12 (.alt 13 (.alt 14 (.alt 15 (.alt 16 (.alt 17 .done))))))) (.skip (.alt 11 .dead))) (.skip tb142)) (.skip (.br 3 tb142 tb142))))))))))) (by kernel_rfl) (fun _ _ _ _ _ _ _ h => h) ?_
     conv => whnf
     repeat' (first | (refine W1 ?_) | exact trivial | (refine And2.mk ?_ ?_ <;> (conv => whnf)))
     all_goals refine c0f (f29 y x.arg.v 3 s.eb s.bank) ⟨symV .same .same .same, .same, .same, .same, .same, trivial⟩ rfl ?_
     all_goals ((conv => whnf); repeat' (first | (refine W1 ?_) | exact trivial | (refine And2.mk ?_ ?_ <;> (conv => whnf))))
     all_goals refine awp_last tab_ok mixed ?_
     all_goals (refine W0 ?_)
     all_goals (exact ⟨_, _, ⟨rfl, rfl⟩, SubS.mkK [] rfl ⟨⟨_, rfl, tup2 (VLe.int (by rw [w16]; omega)) .same⟩, trivial⟩ (allRz rfl rfl rfl rfl rfl rfl (rst_keep rfl rfl) (.keepA) (us_keep))⟩)
    have k8 : opK x.op ≠ 8 := of_decide_eq_false (h8.symm.trans h)
    refine pW ?_
    refine awp_cond (b := (x.op == nCADR)) rfl (fun h => ?_) (fun h => ?_)
    ·have k9 : opK x.op = 9 := of_decide_eq_true (h9.symm.trans h)
     have hr := abs_pos (y := y) (o := x.arg.v) (sp := 2) (by decide)
     have e : wordF s sy x = ((absF y x.arg.v 2).1.toNat, (absF y x.arg.v 2).2) := by unfold wordF; rw [if_neg k6, if_neg k7, if_pos k2, hF]; dsimp only; rw [if_neg k8, if_pos k9]
     rw [e]
     refine awp_last tab_ok mixed ?_
     refine W0 ?_
     refine c0f (f78 y x.arg.v 2 (by unfold inI64; omega)) ⟨symV .same .same .same, .same, .same, trivial⟩ rfl ?_
     refine W0 ?_
     exact ⟨_, _, ⟨rfl, rfl⟩, SubS.mkK [] rfl ⟨⟨_, rfl, tup2 (VLe.int (by rw [w16]; omega)) .same⟩, trivial⟩ (allRz rfl rfl rfl rfl rfl rfl (rst_keep rfl rfl) (.keepA) (us_keep))⟩
    have k9 : opK x.op ≠ 9 := of_decide_eq_false (h9.symm.trans h)
    refine pW ?_
    refine awp_cond (b := (x.op == nECADR)) rfl (fun h => ?_) (fun h => ?_)
    ·have k10 : opK x.op = 10 := of_decide_eq_true (h10.symm.trans h)
     have hr := abs_pos (y := y) (o := x.arg.v) (sp := 1) (by decide)
     have e : wordF s sy x = ((absF y x.arg.v 1).1.toNat, (absF y x.arg.v 1).2) := by unfold wordF; rw [if_neg k6, if_neg k7, if_pos k2, hF]; dsimp only; rw [if_neg k8, if_neg k9, if_pos k10]
     rw [e]
     refine awp_last tab_ok mixed ?_
     refine W0 ?_
     refine c0f (f78 y x.arg.v 1 (by unfold inI64; omega)) ⟨symV .same .same .same, .same, .same, trivial⟩ rfl ?_
     refine W0 ?_
     exact ⟨_, _, ⟨rfl, rfl⟩, SubS.mkK [] rfl ⟨⟨_, rfl, tup2 (VLe.int (by rw [w16]; omega)) .same⟩, trivial⟩ (allRz rfl rfl rfl rfl rfl rfl (rst_keep rfl rfl) (.keepA) (us_keep))⟩
    have k10 : opK x.op ≠ 10 := of_decide_eq_false (h10.symm.trans h)
    have k11 : opK x.op = 11 := by have := opK_lt ha.kn; omega
    have hc := codeK k11
    have h79 : PureCall Tryz.prog 79 [st x.op] (tupV [opV (codeOf x.op), i64 0]) := by
     have h := f79 x.op
     have e : findV x.op = tupV [opV (codeOf x.op), i64 0] := by unfold findV; rw [if_neg (by omega), if_neg (by omega)]
     rw [e] at h; exact h
    have e : wordF s sy x = if (reachF y x.arg.v (ent (codeOf x.op)).k s.eb s.bank).2 ≠ 0 then (0, (reachF y x.arg.v (ent (codeOf x.op)).k s.eb s.bank).2) else encF (codeOf x.op) (reachF y x.arg.v (ent (codeOf x.op)).k s.eb s.bank).1 := by unfold wordF; rw [if_neg k6, if_neg k7, if_pos k2, hF]; dsimp only; rw [if_neg k8, if_neg k9, if_neg k10]
    have hrr := reach_rng y x.arg.v (ent (codeOf x.op)).k s.eb s.bank
    obtain ⟨c, hce⟩ : ∃ c, codeOf x.op = c := ⟨_, rfl⟩
    rw [hce] at e h79 hc hrr
    refine awp_last tab_ok mixed ?_
    refine W0 ?_
    refine pW ?_
    refine c0f h79 ⟨.same, trivial⟩ rfl ?_
    refine W0 ?_
    refine pW ?_
    refine awp_seq ?_
    refine pW ?_
    refine awp_cond (b := (x.arg.k == 2)) rfl (fun h => ?_) (fun h => absurd (nm h) (fun h => h k2))
    refine awp_seq ?_
    by_cases he : (reachF y x.arg.v (ent c).k s.eb s.bank).2 = 0
    ·rw [if_neg (fun h => h he)] at e
     have h80 := xk36 c (reachF y x.arg.v (ent c).k s.eb s.bank).1 hc.1 hc.2
     rw [encR_F hc.1 hc.2] at h80
     rw [e]
     refine awp_tree tab_ok mixed [1, 2, 4, 6, 7, 8, 10, 11, 12, 15, 16, 17, 18, 19] [0, 3, 5, 9, 13] tb140 (by kernel_rfl) (fun _ _ _ _ _ _ _ h => h) ?_
     conv => whnf
     repeat' (first | (refine W1 ?_) | exact trivial | (refine And2.mk ?_ ?_ <;> (conv => whnf)))
     all_goals refine c0f (f29 y x.arg.v (ent c).k s.eb s.bank) ⟨symV .same .same .same, .same, .same, .same, .same, trivial⟩ rfl ?_
     all_goals ((conv => whnf); repeat' (first | (refine W1 ?_) | exact trivial | (refine And2.mk ?_ ?_ <;> (conv => whnf))))
     all_goals refine awp_last tab_ok mixed ?_
     all_goals (refine W0 ?_)
     all_goals refine ⟨fun h => absurd he (nm h), fun h => ?_⟩
     all_goals (refine W0 ?_)
     all_goals refine awp_last tab_ok mixed ?_
     all_goals (refine W0 ?_)
     all_goals refine c0f h80 ⟨opG_le .same .same .same .same .same .same, .same, trivial⟩ rfl ?_
     all_goals (refine W0 ?_)
     all_goals (exact ⟨_, _, ⟨rfl, rfl⟩, SubS.mkK [] rfl ⟨⟨_, rfl, tup2 .same .same⟩, trivial⟩ (allRz rfl rfl rfl rfl rfl rfl (rst_keep rfl rfl) (.keepA) (us_keep))⟩)
    ·rw [if_pos he] at e
     rw [e]
     refine awp_tree tab_ok mixed [1, 2, 4, 6, 7, 8, 10, 11, 12, 15, 16, 17, 18, 19] [0, 3, 5, 9, 13] tb140 (by kernel_rfl) (fun _ _ _ _ _ _ _ h => h) ?_
     conv => whnf
     repeat' (first | (refine W1 ?_) | exact trivial | (refine And2.mk ?_ ?_ <;> (conv => whnf)))
     all_goals refine c0f (f29 y x.arg.v (ent c).k s.eb s.bank) ⟨symV .same .same .same, .same, .same, .same, .same, trivial⟩ rfl ?_
     all_goals ((conv => whnf); repeat' (first | (refine W1 ?_) | exact trivial | (refine And2.mk ?_ ?_ <;> (conv => whnf))))
     all_goals refine awp_last tab_ok mixed ?_
     all_goals (refine W0 ?_)
     all_goals refine ⟨fun h => ?_, fun h => absurd (nm h) he⟩
     all_goals (refine W0 ?_)
     all_goals (exact ⟨_, _, ⟨rfl, rfl⟩, SubS.mkK [] rfl ⟨⟨_, rfl, tup2 .same .same⟩, trivial⟩ (allRz rfl rfl rfl rfl rfl rfl (rst_keep rfl rfl) (.keepA) (us_keep))⟩)
 ·have k11 : opK x.op = 11 := by
   have := opK_lt ha.kn
   by_cases k8 : opK x.op = 8
   ·rw [k8] at hal; exact absurd (alw_sym hal rfl rfl hkk) k2
   by_cases k9 : opK x.op = 9
   ·rw [k9] at hal; exact absurd (alw_sym hal rfl rfl hkk) k2
   by_cases k10 : opK x.op = 10
   ·rw [k10] at hal; exact absurd (alw_sym hal rfl rfl hkk) k2
   omega
  have hc := codeK k11
  have h79 : PureCall Tryz.prog 79 [st x.op] (tupV [opV (codeOf x.op), i64 0]) := by
   have h := f79 x.op
   have e : findV x.op = tupV [opV (codeOf x.op), i64 0] := by unfold findV; rw [if_neg (by omega), if_neg (by omega)]
   rw [e] at h; exact h
  have e : wordF s sy x = encF (codeOf x.op) x.arg.v := by unfold wordF; rw [if_neg k6, if_neg k7, if_neg k2]
  have h80 := xk36 (codeOf x.op) x.arg.v hc.1 hc.2
  rw [encR_F hc.1 hc.2] at h80
  rw [e]
  rw [k11] at h8 h9 h10
  refine W0 ?_
  refine pW ?_
  refine na (by simp) ?_
  refine W0 ?_
  refine pW ?_
  refine awp_seq ?_
  refine pW ?_
  refine awp_block ?_
  refine pW ?_
  refine awp_cond (b := (x.op == nADRES)) rfl (fun h => absurd (h8.symm.trans h) (by decide)) (fun h => ?_)
  refine pW ?_
  refine awp_cond (b := (x.op == nCADR)) rfl (fun h => absurd (h9.symm.trans h) (by decide)) (fun h => ?_)
  refine pW ?_
  refine awp_cond (b := (x.op == nECADR)) rfl (fun h => absurd (h10.symm.trans h) (by decide)) (fun h => ?_)
  refine awp_last tab_ok mixed ?_
  refine W0 ?_
  refine pW ?_
  refine c0f h79 ⟨.same, trivial⟩ rfl ?_
  refine W0 ?_
  refine pW ?_
  refine awp_seq ?_
  refine pW ?_
  refine awp_cond (b := (x.arg.k == 2)) rfl (fun h => absurd (nm h) k2) (fun h => ?_)
  refine awp_last tab_ok mixed ?_
  refine W0 ?_
  refine awp_last tab_ok mixed ?_
  refine W0 ?_
  refine c0f h80 ⟨opG_le .same .same .same .same .same .same, .same, trivial⟩ rfl ?_
  refine W0 ?_
  exact ⟨_, _, ⟨rfl, rfl⟩, SubS.mkK [] rfl ⟨⟨_, rfl, tup2 .same .same⟩, trivial⟩ (allRz rfl rfl rfl rfl rfl rfl (rst_keep rfl rfl) (.keepA) (us_keep))⟩
end Go.Proofs.YtkeecnoafjhhdaaGreatDoor
namespace Go.Proofs.YtkeecnoafjhhdaaGreatDoor
open Go Go.AM
attribute [local irreducible] AWP CallK PureCall SubS HeapCallK
theorem bgt2 {a b : List UInt8} : (Op.bytesLess a b || a == b) = false ↔ b < a := by
 by_cases h1 : a < b
 ·constructor
  ·intro h; rw [bless, decide_eq_true h1] at h; cases h
  ·intro h; exact absurd h (List.lt_asymm h1)
 ·exact (bgt h1).symm
theorem nb2 {b : Bool} (h : (!b) = true) : b = false := by cases b <;> simp_all
theorem nb3 {b : Bool} (h : (!b) = false) (h' : b = false) : False := by cases b <;> simp_all
theorem cells_take {H : Heap} {B : List Nat} {U : List (Nat × Nat)} {O : List Sym} {g k z : Nat} (hz : z = 0) : CellsA H B U (fun i j => (rowA 65 3 Sym.p sz0 g O).f (z + i) j) Sym.p sz0 3 (O.take k) := fun i j hi hj => by
 subst hz
 rw [List.length_take] at hi
 have e : (O.take k).getD i sz0 = O.getD i sz0 := by rw [List.getD_eq_getElem?_getD, List.getD_eq_getElem?_getD, List.getElem?_take_of_lt (by omega)]
 rw [e]
 show VLe H B U ((rowA 65 3 Sym.p sz0 g O).f (0 + i) j) _
 rw [Nat.zero_add]; exact .same
theorem cells_drop {H : Heap} {B : List Nat} {U : List (Nat × Nat)} {O : List Sym} {g k z : Nat} (hz : z = k) : CellsA H B U (fun i j => (rowA 65 3 Sym.p sz0 g O).f (z + i) j) Sym.p sz0 3 (O.drop k) := fun i j hi hj => by
 subst hz
 have e : (O.drop z).getD i sz0 = O.getD (z + i) sz0 := by rw [List.getD_eq_getElem?_getD, List.getD_eq_getElem?_getD, List.getElem?_drop]
 rw [e]; exact .same
def srtS (l O : List Sym) (g i k : Nat) : ASt := mkSt 51 [(0, .pv (symsP l)), (3, .row 1000 g 3 0 i), (4, i64 i), (5, i64 k)] [(1000, rowA 65 3 Sym.p sz0 g O)]
set_option maxHeartbeats 4000000 in
theorem f54 (l : List Sym) (hl : l.length < 2 ^ 40) : PureCall Tryz.prog 54 [.pv (symsP l)] (.pv (symsP (sortB ltS l))) := by
 refine pr (by kernel_rfl) Tryz.func54 rfl rfl rfl ?_
 refine Wd ?_
 refine awp_loopI (fun x : Nat × Nat => x.1 ≤ l.length) (fun x => mkSt 51 [(0, .pv (symsP l)), (3, .row 1000 x.2 3 0 x.1), (4, i64 x.1)] [(1000, rowA 65 3 Sym.p sz0 x.2 (sortB ltS (l.take x.1)))]) (fun x => l.length - x.1) (0, 0) (Nat.zero_le _)
  (SubS.mkN [] [] rfl rfl rfl ⟨⟨_, rfl, .same⟩, ⟨_, rfl, .void _ _ _⟩, ⟨_, rfl, .same⟩, trivial⟩ ⟨.inr (.inl ⟨rfl, rfl⟩), trivial⟩) ?_
 rintro ⟨i, g⟩ hi
 dsimp only at hi ⊢
 refine pc ?_
 refine Wd ?_
 refine tr (fun hc => ?_) fun hc => ?_
 ·have hlt : i < l.length := by omega
  obtain ⟨O, hO⟩ : ∃ O, sortB ltS (l.take i) = O := ⟨_, rfl⟩
  have hOl : O.length = i := by rw [← hO, sort_len, List.length_take]; omega
  have hOs : SrtB ltS O := by rw [← hO]; exact sortB_sorted ltS_asy ltS_tr _
  rw [hO]
  refine Wd ?_
  refine awp_seq (awp_block ?_)
  refine pc ?_
  refine Wd ?_
  refine awp_cut (fun k : Nat => srtS l O g i k) (fun k => k ≤ i ∧ (∀ j, k ≤ j → j < O.length → ltS (l.getD i sz0) (O.getD j sz0) = true) ∧ (k = 0 ∨ ltS (l.getD i sz0) (O.getD (k - 1) sz0) = false)) (fun K hK => ?_) (fun k hk => ?_)
  ·refine awp_block (awp_loopI (fun k : Nat => k ≤ i ∧ ∀ j, k ≤ j → j < O.length → ltS (l.getD i sz0) (O.getD j sz0) = true) (srtS l O g i) (fun k => k) i ⟨Nat.le_refl _, fun j h1 h2 => by omega⟩
    (SubS.mkN [] [(1000, 1000)] rfl rfl rfl ⟨⟨_, rfl, .same⟩, ⟨_, rfl, .rq rfl⟩, ⟨_, rfl, .same⟩, ⟨_, rfl, .same⟩, trivial⟩ ⟨.inl ⟨_, _, rfl, rfl, rfl, .keepA⟩, trivial⟩) ?_)
   rintro k ⟨hk, hhi⟩
   refine awp_seq ?_
   refine awp_last tab_ok mixed (ex_sq (ex_drawn (by kernel_rfl) ?_))
   by_cases hk0 : k = 0
   ·refine Wl ?_
    refine AD.test rfl rfl rfl ⟨fun h => absurd h (by rw [hk0]; decide), fun _ => ?_⟩
    refine Wd ?_
    refine Wl ?_
    refine AD.nil ⟨by kernel_rfl, ?_⟩
    refine Wd ?_
    refine Wd ?_
    exact hK _ k ⟨hk, hhi, .inl hk0⟩ (SubS.mkN [] [(1000, 1000)] rfl rfl rfl ⟨⟨_, rfl, .same⟩, ⟨_, rfl, .rq rfl⟩, ⟨_, rfl, .same⟩, ⟨_, rfl, .same⟩, trivial⟩ ⟨.inl ⟨_, _, rfl, rfl, rfl, .keepA⟩, trivial⟩)
   ·refine Wl ?_
    refine AD.test rfl rfl rfl ⟨fun _ => ?_, fun h => absurd h (by simp; omega)⟩
    refine Wd ?_
    refine Wl ?_
    refine ⟨⟨by unfold inI64; omega⟩, ?_⟩
    refine Wd ?_
    refine Wl ?_
    refine ⟨⟨by omega, by omega, rfl⟩, ?_⟩
    refine Wd ?_
    refine Wl ?_
    refine ⟨⟨rfl, rfl, by show 0 + ((k : Int) - 1).toNat < O.length; omega, nle rfl⟩, ?_⟩
    refine Wd ?_
    refine Wl ?_
    refine ⟨⟨by omega, by omega, rfl⟩, ?_⟩
    refine Wd ?_
    refine Wl ?_
    refine ⟨⟨by decide⟩, ?_⟩
    refine Wd ?_
    refine Wl ?_
    refine ⟨⟨nle rfl⟩, ?_⟩
    refine Wd ?_
    refine Wl ?_
    refine AD.nil ⟨by kernel_rfl, ?_⟩
    refine Wd ?_
    refine Wd ?_
    have ek : 0 + ((k : Int) - 1).toNat = k - 1 := by omega
    refine ⟨fun h => ?_, fun h => ?_⟩
    ·have hgt : ltS (l.getD i sz0) (O.getD (k - 1) sz0) = true := by
      have h := bgt2.mp (nb2 h)
      rw [ek, Int.toNat_natCast] at h
      exact decide_eq_true h
     refine Wd ?_
     refine awp_last tab_ok mixed ?_
     refine Wd ?_
     refine ⟨⟨by unfold inI64; omega⟩, ?_⟩
     refine Wd ?_
     exact ⟨k - 1, ⟨by omega, fun j h1 h2 => by rcases Nat.lt_or_ge j k with h | h; rw [show j = k - 1 by omega]; exact hgt; exact hhi j h h2⟩, (SubS.mkN [] [(1000, 1000)] rfl rfl rfl ⟨⟨_, rfl, .same⟩, ⟨_, rfl, .rq rfl⟩, ⟨_, rfl, .same⟩, ⟨_, rfl, VLe.int (by omega)⟩, trivial⟩ ⟨.inl ⟨_, _, rfl, rfl, rfl, .keepA⟩, trivial⟩), by omega⟩
    ·have hgt : ltS (l.getD i sz0) (O.getD (k - 1) sz0) = false := by
      refine decide_eq_false fun hlt' => ?_
      have h' := bgt2.mpr hlt'
      rw [← ek, ← Int.toNat_natCast i] at h'
      exact nb3 h h'
     refine Wd ?_
     exact hK _ k ⟨hk, hhi, .inr hgt⟩ (SubS.mkN [] [(1000, 1000)] rfl rfl rfl ⟨⟨_, rfl, .same⟩, ⟨_, rfl, .rq rfl⟩, ⟨_, rfl, .same⟩, ⟨_, rfl, .same⟩, trivial⟩ ⟨.inl ⟨_, _, rfl, rfl, rfl, .keepA⟩, trivial⟩)
  ·obtain ⟨hk, hhi, hlo⟩ := hk
   refine awp_last tab_ok mixed ?_
   refine Wd ?_
   refine ⟨⟨by omega, by omega, rfl⟩, ?_⟩
   refine Wd ?_
   refine ⟨⟨⟨rfl, rfl, rfl, by show 0 + ((k : Nat) : Int).toNat ≤ O.length; omega⟩, by show ((k : Nat) : Int).toNat * 32 ≤ _; omega⟩, ?_⟩
   refine Wd ?_
   refine ⟨⟨by omega, by omega, rfl⟩, ?_⟩
   refine Wd ?_
   refine ⟨⟨nle rfl⟩, ?_⟩
   refine Wd ?_
   refine ⟨⟨⟨rfl, rfl, rfl, nle rfl⟩, rfl, rfl, rfl, rfl, rfl, rfl, by show (((k : Nat) : Int).toNat + 1) * 32 ≤ _; omega⟩, ?_⟩
   refine Wd ?_
   refine ⟨⟨by omega, by omega, rfl⟩, ?_⟩
   refine Wd ?_
   refine ⟨⟨⟨rfl, rfl, rfl, by show 0 + ((k : Nat) : Int).toNat + ((i : Int) - k).toNat ≤ O.length; omega⟩, rfl, rfl, rfl, rfl, rfl, rfl, by show (((k : Nat) : Int).toNat + 1 + ((i : Int) - k).toNat) * 32 ≤ _; omega⟩, ?_⟩
   refine Wd ?_
   refine awp_last tab_ok mixed ?_
   refine Wd ?_
   refine ⟨⟨by unfold inI64; omega⟩, ?_⟩
   refine Wd ?_
   have hs : sortB ltS (l.take (i + 1)) = (O.take k ++ [l.getD i sz0]) ++ O.drop k := by
    rw [sort_succ (d := sz0) hlt, hO, ins_at (d := sz0) (by omega) (ins_srt ltS_tr hOs (by omega) hlo) hhi, List.append_assoc]; rfl
   refine ⟨(i + 1, 2), hlt, SubS.mkN [] [(1000, 37)] rfl rfl rfl ⟨⟨_, rfl, .same⟩, ⟨_, rfl, .row _ _ _ _ _ _ _ _ _ rfl rfl rfl (by dsimp only; omega)⟩, ⟨_, rfl, .same⟩, trivial⟩ ⟨.inl ⟨_, _, rfl, rfl, rfl, ?_⟩, trivial⟩, by dsimp only; omega⟩
   rw [hs]
   refine CellsA.row (c := Sym.p) (L := (O.take k ++ [l.getD i sz0]) ++ O.drop k) ?_ rfl rfl (by rw [List.length_append, List.length_append, List.length_take, List.length_singleton, List.length_drop]; omega)
   refine CellsA.cat (n := ((k : Nat) : Int).toNat + 1) ?_ (by rw [List.length_append, List.length_take, List.length_singleton]; omega) (cells_drop (O := O) (k := k) (g := g) (z := 0 + ((k : Nat) : Int).toNat) (by omega))
   dsimp only
   refine CellsA.cat (n := ((k : Nat) : Int).toNat) (cells_take (O := O) (k := k) (g := g) (z := 0) rfl) (by rw [List.length_take]; omega) ?_
   refine CellsA.one (a := l.getD i sz0) fun j hj => ?_
   match j, hj with
   | 0, _ => exact .same
   | 1, _ => exact .same
   | 2, _ => exact .same
 ·have hil : i = l.length := by omega
  subst hil
  rw [List.take_length]
  refine Wd ?_
  exact ⟨[1000], .frzA rfl rfl sort_len.symm⟩
def symI (L : List Line) (x : St × Nat × Nat) : Prop := x.2.1 ≤ L.length ∧ fstI L x.2.1 x.1 ∧ x.1.syms.length ≤ x.2.1
def symS (L : List Line) (x : St × Nat × Nat) : ASt := mkSt 34 [(0, .pv (linesP L)), (5, .ptr 200 0 7 0 0), (6, i64 x.2.1)] (refH x.1 x.2.2)
set_option maxHeartbeats 4000000 in
theorem f22 (L : List Line) (hL : L.length < 2 ^ 47) (hB : ∀ l ∈ L, LineB l) : PureCall Tryz.prog 22 [.pv (linesP L)] (symT (symbolsR L)) := by
 refine pR (by kernel_rfl) Tryz.func22 rfl rfl rfl ?_
 refine tr (fun h0 => ?_) fun h0 => ?_
 ·refine W0 ?_
  have e : symbolsR L = ([], 0, 4) := by unfold symbolsR; rw [if_pos (by omega)]
  rw [e]
  exact done_tup [.pv (symsP []), i64 0, i64 4] [] rfl ⟨VLe.nilA, .same, .same, trivial⟩
 ·have hlen : ¬ 65536 < L.length := by omega
  refine W0 ?_
  refine CallK.heapK f42 [] [] rfl rfl rfl trivial trivial 2000 rfl (fun r Hout hr => ?_) (fun r Hout hr => hr.elim)
  obtain ⟨rfl, rfl⟩ := hr
  refine W0 ?_
  refine ex_loop tab_ok mixed (symI L) (symS L) (fun x => L.length - x.2.1) (st0, 0, 0) ⟨Nat.zero_le _, ⟨wf0, rfl⟩, Nat.le_refl _⟩
   (SubS.mkN [] [(200, 2200), (201, 2201), (202, 2202)] rfl rfl rfl ⟨⟨_, rfl, .same⟩, ⟨_, rfl, .pq rfl⟩, ⟨_, rfl, .same⟩, trivial⟩
     ⟨.inl ⟨_, _, rfl, rfl, rfl, rstLe rfl rfl rfl rfl .same .same .same .same .same (.rq rfl) (.rq rfl)⟩, .inl ⟨_, _, rfl, rfl, rfl, .keepA⟩, .inl ⟨_, _, rfl, rfl, rfl, us_keep⟩, trivial⟩) ?_
  rintro ⟨s, i, g⟩ ⟨hi, hI, hsl⟩
  dsimp only at hi hI hsl
  refine W0 ?_
  refine tr (fun hc => ?_) fun hc => ?_
  ·have hc : (i : Int) < L.length := hc
   have hlt : i < L.length := by omega
   have hx := hB _ (getD_mem hlt)
   refine W0 ?_
   refine ⟨⟨by omega, by omega, rfl⟩, ?_⟩
   refine W0 ?_
   refine ⟨⟨nle rfl⟩, ?_⟩
   refine W0 ?_
   rw [Int.toNat_natCast]
   refine CallK.heapK (f47 s g (L.getD i lz) hx (by omega) hI.1) [] [(200, 200), (201, 201), (202, 202)] rfl rfl rfl ⟨.pq rfl, lineV .same .same .same .same .same, trivial⟩ (allRz rfl rfl rfl rfl rfl rfl (rst_keep rfl rfl) (.keepA) (us_keep)) 4000 rfl (fun r Hout hr => ?_) (fun r Hout hr => ?_)
   ·cases hs : stepF s (L.getD i lz) with
    | ok s1 =>
      rw [hs] at hr
      obtain ⟨rfl, g', rfl⟩ := hr
      have h1 := step_len hs
      refine W0 ?_
      refine na (by simp) ?_
      refine W0 ?_
      refine ⟨⟨by unfold inI64; omega⟩, ?_⟩
      refine W0 ?_
      exact ⟨(s1, i + 1, g'), ⟨hlt, fst_step hlt hI hs, by dsimp only; omega⟩, SubS.mkN [] [(200, 200), (201, 201), (202, 202)] rfl rfl rfl ⟨⟨_, rfl, .same⟩, ⟨_, rfl, .pq rfl⟩, ⟨_, rfl, .same⟩, trivial⟩ ⟨.inl ⟨_, _, rfl, rfl, rfl, rst_keepR rfl rfl⟩, .inl ⟨_, _, rfl, rfl, rfl, .keepA⟩, .inl ⟨_, _, rfl, rfl, rfl, us_keep⟩, trivial⟩, by dsimp only; omega⟩
    | error e =>
      rw [hs] at hr
      obtain ⟨rfl, s', g', rfl⟩ := hr
      have he := step_er hs
      have e' : symbolsR L = ([], ((i + 1 : Nat) : Int), e) := by unfold symbolsR; rw [if_neg hlen, fst_err hlt hI hs]
      rw [e']
      refine W0 ?_
      refine ⟨fun _ => ?_, fun h => absurd (nm h) he⟩
      refine W0 ?_
      refine ⟨⟨by unfold inI64; omega⟩, ?_⟩
      refine W0 ?_
      exact done_tup [.pv (symsP []), i64 ((i + 1 : Nat) : Int), i64 e] [] rfl ⟨VLe.nilA, VLe.int rfl, .same, trivial⟩
   ·exact hr.elim
  ·have hc : (L.length : Int) ≤ i := hc
   have hil : i = L.length := by omega
   subst hil
   have e : symbolsR L = (sortB ltS s.syms, 0, 0) := by unfold symbolsR; rw [if_neg hlen, fst_end hI]
   rw [e]
   refine W0 ?_
   refine W0 ?_
   refine CallK.drop [201] (f54 s.syms (by omega)) ⟨.frzA rfl rfl rfl, trivial⟩ ?_
   refine W0 ?_
   exact done_tup [.pv (symsP (sortB ltS s.syms)), i64 0, i64 0] [] rfl ⟨.same, .same, .same, trivial⟩
def wdsO (acc : List (Nat × Nat)) : AO := ⟨3, 0, 1, 36864, fun k _ => i64 (wv acc k)⟩
theorem wds_keep {H : Heap} {B : List Nat} {U : List (Nat × Nat)} {acc : List (Nat × Nat)} : OLe H B U (wdsO acc) (wdsO acc) := ⟨rfl, rfl, rfl, Nat.le_refl _, fun _ _ _ _ => .same⟩
theorem wds_put {H : Heap} {B : List Nat} {U : List (Nat × Nat)} {acc : List (Nat × Nat)} {o : AO} {k k' v : Nat} {g : Nat → AV} (e1 : o.E = 3) (e2 : o.gen = 0) (e3 : o.sz = 1) (e4 : o.n = 36864) (hk : k' = k) (hn : k ∉ acc.map Prod.fst) (hv : g 0 = i64 ((v : Int) + 1)) (hf : o.f = setCells (wdsO acc).f k' 0 1 g) : OLe H B U o (wdsO (acc ++ [(k, v)])) := by
 refine ⟨e1.symm, e2.symm, e3.symm, Nat.le_of_eq e4.symm, fun i j hi hj => ?_⟩
 have hj0 : j = 0 := by rw [e3] at hj; omega
 subst hj0 hk
 have e0 : (wdsO (acc ++ [(k', v)])).f i 0 = i64 (if i = k' then (v : Int) + 1 else wv acc i) := by show i64 (wv _ i) = _; rw [wv_app hn]
 rw [e0, hf]
 unfold setCells
 by_cases h : i = k'
 ·subst h
  rw [show Nat.beq i i = true from Nat.beq_refl i, if_pos rfl]
  show VLe H B U (g 0) _
  rw [hv]; exact .same
 ·rw [show Nat.beq i k' = false by rw [← Bool.not_eq_true, Nat.beq_eq]; exact h, if_neg h]
  exact .same
theorem pass_er : ∀ {L : List Line} {i : Nat} {s : St} {j : Nat} {e : Int}, passF L i s = .error (j, e) → e ≠ 0
 | [], _, _, _, _, h => by cases h
 | l :: L, i, s, j, e, h => by
   rw [passF_cons] at h
   cases hs : stepF s l with
   | error e' =>
     rw [hs] at h
     have h1 : ((i + 1, e') : Nat × Int) = (j, e) := Except.error.inj h
     rw [← (Prod.mk.inj h1).2]; exact step_er hs
   | ok s1 => rw [hs] at h; exact pass_er h
theorem wds_zero {H : Heap} {B : List Nat} {U : List (Nat × Nat)} {o : AO} (e1 : o.E = 3) (e2 : o.gen = 0) (e3 : o.sz = 1) (e4 : o.n = 36864) (hf : ∀ i, o.f i 0 = i64 0) : OLe H B U o (wdsO []) :=
 ⟨e1.symm, e2.symm, e3.symm, Nat.le_of_eq e4.symm, fun i j hi hj => by
   have hj0 : j = 0 := by rw [e3] at hj; omega
   subst hj0
   rw [hf]; exact .same⟩
def asmW (L : List Line) (all : List Sym) (s : St) (g : Nat) (acc : List (Nat × Nat)) (i : Nat) : ASt := mkSt 117 [(0, .pv (linesP L)), (2, .ptr 2 0 2 0 0), (5, .pv (symsP all)), (8, .ptr 200 0 7 0 0), (9, .row 300 0 1 0 36864), (10, i64 i)] ((2, objB .nilS .nilS) :: (300, wdsO acc) :: refH s g)
def asmX (L : List Line) (all : List Sym) (s : St) (g : Nat) (acc : List (Nat × Nat)) (i w : Nat) : ASt := mkSt 117 [(0, .pv (linesP L)), (2, .ptr 2 0 2 0 0), (5, .pv (symsP all)), (8, .ptr 200 0 7 0 0), (9, .row 300 0 1 0 36864), (10, i64 i), (11, u16 w)] ((2, objB .nilS .nilS) :: (300, wdsO acc) :: refH s g)
def as2S (_ : List Line) (all : List Sym) (acc : List (Nat × Nat)) (k g : Nat) : ASt := mkSt 117 [(2, .ptr 2 0 2 0 0), (9, .row 300 0 1 0 36864), (13, .ptr 13 0 2 0 0), (14, i64 k)] [(2, objB .nilS .nilS), (300, wdsO acc), (13, objB (.row 1000 g 2 0 (cellsL acc k).length) (.pv (symsP all))), (1000, rowA 55 2 cellP (0, 0) g (cellsL acc k))]
theorem cellsL_len (acc : List (Nat × Nat)) : ∀ n, (cellsL acc n).length ≤ n
 | 0 => Nat.le_refl _
 | n + 1 => by
   show (cellsL acc n ++ _).length ≤ _
   have := cellsL_len acc n
   rw [List.length_append]
   cases fndC acc n with
   | none => show _ + 0 ≤ _; omega
   | some q => show _ + 1 ≤ _; omega
def asmI (L : List Line) (sF : St) (i : Nat) (x : S2) : Prop := i ≤ L.length ∧ sndI L sF i x ∧ x.s.syms.length ≤ i ∧ ∀ q ∈ x.acc, q.2 < 65536
theorem snd_next {L : List Line} {sF s1 : St} {i : Nat} {x : S2} {a : List (Nat × Nat)} (hi : i < L.length) (h : sndI L sF i x) (hs : stepF x.s (L.getD i lz) = .ok s1)
  (ha : (putsB (L.getD i lz) = true ∧ (wordF x.s sF.syms (L.getD i lz)).2 = 0 ∧ a = x.acc ++ cellF x.s (cntK (opK (L.getD i lz).op) (L.getD i lz).op x.s.mark) (wordF x.s sF.syms (L.getD i lz)).1) ∨ (putsB (L.getD i lz) = false ∧ a = x.acc)) : sndI L sF (i + 1) ⟨s1, a, 0⟩ := by
 obtain ⟨s1', hs1, hp1⟩ := snd_line hi h
 obtain rfl : s1' = s1 := Except.ok.inj (hs1.symm.trans hs)
 rcases ha with ⟨hp, h0, rfl⟩ | ⟨hp, rfl⟩
 ·obtain ⟨hn, hu⟩ := step_puts hs hp
  refine ⟨step_wf h.1 hs, hp1, ?_, ?_⟩
  ·rw [h.2.2.1, drop_getD (d := lz) hi, cellsF_cons, hp, if_pos rfl, if_neg (fun hh => hh h0), hs]
  ·show (x.acc ++ _).map Prod.fst = s1'.used
   rw [List.map_append, h.2.2.2, cell_keys hn, hu]
 ·have hu := step_none hs hp
  refine ⟨step_wf h.1 hs, hp1, ?_, ?_⟩
  ·rw [h.2.2.1, drop_getD (d := lz) hi, cellsF_cons, hp, hs]; rfl
  ·show x.acc.map Prod.fst = s1'.used; rw [hu]; exact h.2.2.2
set_option maxHeartbeats 4000000 in
theorem f14 (L : List Line) (hL : L.length < 2 ^ 47) (hB : ∀ l ∈ L, LineB l) : PureCall Tryz.prog 14 [.pv (linesP L)] (objT (asmR L)) := by
 have h22 := f22 L hL hB
 by_cases hlen : 65536 < L.length
 ·have e : asmR L = (⟨[], []⟩, 0, 4) := by unfold asmR; rw [if_pos hlen]
  have e2 : symbolsR L = ([], 0, 4) := by unfold symbolsR; rw [if_pos hlen]
  rw [e2] at h22
  rw [e]
  refine pR (by kernel_rfl) Tryz.func14 rfl rfl rfl ?_
  refine c0d h22 ⟨.same, trivial⟩ ?_
  refine W0 ?_
  refine ⟨fun _ => ?_, fun h => absurd (nm h) (by decide)⟩
  refine W0 ?_
  exact done_tup [objV ⟨[], []⟩, i64 0, i64 4] [] rfl ⟨objV_le VLe.nilA VLe.nilA, .same, .same, trivial⟩
 cases hp : passF L 0 st0 with
 | error ie =>
   obtain ⟨i, er⟩ := ie
   have e : asmR L = (⟨[], []⟩, (i : Int), er) := by unfold asmR; rw [if_neg hlen, hp]
   have e2 : symbolsR L = ([], (i : Int), er) := by unfold symbolsR; rw [if_neg hlen, hp]
   rw [e2] at h22
   rw [e]
   refine pR (by kernel_rfl) Tryz.func14 rfl rfl rfl ?_
   refine c0d h22 ⟨.same, trivial⟩ ?_
   refine W0 ?_
   refine ⟨fun _ => ?_, fun h => absurd (nm h) (pass_er hp)⟩
   refine W0 ?_
   exact done_tup [objV ⟨[], []⟩, i64 i, i64 er] [] rfl ⟨objV_le VLe.nilA VLe.nilA, .same, .same, trivial⟩
 | ok sF =>
   have e2 : symbolsR L = (sortB ltS sF.syms, 0, 0) := by unfold symbolsR; rw [if_neg hlen, hp]
   rw [e2] at h22
   refine pR (by kernel_rfl) Tryz.func14 rfl rfl rfl ?_
   refine c0d h22 ⟨.same, trivial⟩ ?_
   refine W0 ?_
   refine ⟨fun h => absurd rfl (nm h), fun _ => ?_⟩
   refine W0 ?_
   refine CallK.heapK f42 [] [] rfl rfl rfl trivial trivial 2000 rfl (fun r Hout hr => ?_) (fun r Hout hr => hr.elim)
   obtain ⟨rfl, rfl⟩ := hr
   refine W0 ?_
   refine ⟨⟨by decide, by decide, by decide, by decide⟩, ?_⟩
   refine W0 ?_
   refine awp_loopI (fun x : S2 × Nat × Nat => asmI L sF x.2.1 x.1) (fun x => asmW L (sortB ltS sF.syms) x.1.s x.2.2 x.1.acc x.2.1) (fun x => L.length - x.2.1) (⟨st0, [], 0⟩, 0, 0) ⟨Nat.zero_le _, ⟨wf0, hp, rfl, rfl⟩, Nat.le_refl _, fun q h => absurd h List.not_mem_nil⟩
    (SubS.mkN [] [(2, 2), (300, 27), (200, 2200), (201, 2201), (202, 2202)] rfl rfl rfl ⟨⟨_, rfl, .same⟩, ⟨_, rfl, .pq rfl⟩, ⟨_, rfl, .same⟩, ⟨_, rfl, .pq rfl⟩, ⟨_, rfl, .rq rfl⟩, ⟨_, rfl, .same⟩, trivial⟩
      ⟨.inl ⟨_, _, rfl, rfl, rfl, objB_le rfl rfl rfl rfl .nils .nils⟩, .inl ⟨_, _, rfl, rfl, rfl, wds_zero rfl rfl rfl rfl fun _ => rfl⟩, .inl ⟨_, _, rfl, rfl, rfl, rstLe rfl rfl rfl rfl .same .same .same .same .same (.rq rfl) (.rq rfl)⟩, .inl ⟨_, _, rfl, rfl, rfl, .keepA⟩, .inl ⟨_, _, rfl, rfl, rfl, us_keep⟩, trivial⟩) ?_
   rintro ⟨x, i, g⟩ ⟨hi, hI, hsl, hv⟩
   dsimp only at hi hI hsl hv
   refine pW ?_
   refine tr (fun hc => ?_) fun hc => ?_
   ·have hc : (i : Int) < L.length := hc
    have hlt : i < L.length := by omega
    have hx := hB _ (getD_mem hlt)
    obtain ⟨s1, hs1, hp1⟩ := snd_line hlt hI
    have hw := hI.1
    have hop : (L.getD i lz).op = [] ∨ opK (L.getD i lz).op ≠ 12 := by
     rcases step_inv hs1 with ⟨_, h, _⟩ | ⟨h, _⟩
     ·exact .inl h
     ·exact .inr h.kn
    have hsF := pass_wf _ _ _ _ hI.1 hI.2.1
    have hlF : sF.syms.length ≤ L.length := by have := pass_len _ _ _ _ hp; have h0 : st0.syms.length = 0 := rfl; omega
    obtain ⟨n, hn⟩ : ∃ n, cntK (opK (L.getD i lz).op) (L.getD i lz).op x.s.mark = n := ⟨_, rfl⟩
    obtain ⟨w, er, hwe⟩ : ∃ w er, wordF x.s sF.syms (L.getD i lz) = (w, er) := ⟨_, _, rfl⟩
    refine W0 ?_
    refine awp_seq (awp_block ?_)
    refine awp_cut (fun a : List (Nat × Nat) => asmW L (sortB ltS sF.syms) x.s g a i) (fun a => (putsB (L.getD i lz) = true ∧ er = 0 ∧ w < 65536 ∧ a = x.acc ++ cellF x.s n w) ∨ (putsB (L.getD i lz) = false ∧ a = x.acc)) (fun K hK => ?_) (fun a ha => ?_)
    ·refine pW ?_
     refine ⟨⟨by omega, by omega, rfl⟩, ?_⟩
     refine W0 ?_
     refine ⟨⟨nle rfl⟩, ?_⟩
     refine W0 ?_
     rw [Int.toNat_natCast]
     refine CallK.heapK (f43 x.s g (L.getD i lz) hop) [] [(200, 200), (201, 201), (202, 202)] rfl rfl rfl ⟨.pq rfl, lineV .same .same .same .same .same, trivial⟩ (allRz rfl rfl rfl rfl rfl rfl (rst_keep rfl rfl) (.keepA) (us_keep)) 4000 rfl (fun r Hout hr => ?_) (fun r Hout hr => ?_)
     ·obtain ⟨rfl, rfl⟩ := hr
      refine W0 ?_
      refine awp_cond (b := putsB (L.getD i lz)) rfl (fun hb => ?_) (fun hb => ?_)
      ·have hb1 : (L.getD i lz).op ≠ [] := of_decide_eq_true (Bool.and_eq_true _ _ ▸ hb : _ ∧ _).1
       have h6 : 6 ≤ opK (L.getD i lz).op := of_decide_eq_true (Bool.and_eq_true _ _ ▸ hb : _ ∧ _).2
       have had : Adm (L.getD i lz) := by
        rcases step_inv hs1 with ⟨_, h, _⟩ | ⟨h, _⟩
        ·exact absurd h hb1
        ·exact h
       obtain ⟨hn12, hus⟩ := step_puts hs1 hb
       rw [hn] at hn12 hus
       have hnu : (x.s.used ++ newA x.s n).Nodup := hus ▸ (step_wf hw hs1).nu
       have hni : ∀ j, j < n → x.s.adr + j ∉ x.acc.map Prod.fst := fun j hj hm => by
        rw [hI.2.2.2] at hm
        exact (List.nodup_append.mp hnu).2.2 _ hm _ (List.mem_map.mpr ⟨j, List.mem_range.mpr hj, rfl⟩) rfl
       have hnb : ∀ j, j < n → x.s.adr + j < 36864 := fun j hj => (step_wf hw hs1).used _ (by rw [hus]; exact List.mem_append.mpr (.inr (List.mem_map.mpr ⟨j, List.mem_range.mpr hj, rfl⟩)))
       have hlt16 : w < 65536 := by have := word_lt (s := x.s) (sy := sF.syms) had h6; rw [hwe] at this; exact this
       refine pW ?_
       refine ⟨⟨by omega, by omega, rfl⟩, ?_⟩
       refine W0 ?_
       refine ⟨⟨nle rfl⟩, ?_⟩
       refine W0 ?_
       rw [Int.toNat_natCast]
       refine CallK.heapK (f44 x.s g (sortB ltS sF.syms) (L.getD i lz) hw (by rw [sort_len]; omega) (fun y hy => hsF.sy y ((sortB_perm ltS sF.syms).mem_iff.mp hy)) had h6) [] [(200, 200), (201, 201), (202, 202)] rfl rfl rfl ⟨.pq rfl, .same, lineV .same .same .same .same .same, trivial⟩ (allRz rfl rfl rfl rfl rfl rfl (rst_keepR rfl rfl) (.keepA) (us_keep)) 6000 rfl (fun r Hout hr => ?_) (fun r Hout hr => ?_)
       ·obtain ⟨rfl, rfl⟩ := hr
        rw [word_sort hsF.nd, hwe]
        refine W0 ?_
        refine pW ?_
        refine tr (fun her => ?_) fun her => ?_
        ·have e : asmR L = (⟨[], []⟩, ((i + 1 : Nat) : Int), er) := by
          unfold asmR
          rw [if_neg hlen, hp]
          dsimp only
          rw [snd_err hlt hI hb (by rw [hwe]; exact her), hwe]
         rw [e]
         refine W0 ?_
         refine ⟨⟨by show inI64 ((i : Int) + 1); unfold inI64; omega⟩, ?_⟩
         refine W0 ?_
         exact done_tup [objV ⟨[], []⟩, i64 ((i + 1 : Nat) : Int), i64 er] [] rfl ⟨objV_le VLe.nilA VLe.nilA, VLe.int rfl, .same, trivial⟩
        ·subst her
         refine W0 ?_
         refine awp_cut (fun a : List (Nat × Nat) => asmX L (sortB ltS sF.syms) x.s g a i w) (fun a => a = x.acc ++ (if n = 2 then [(x.s.adr, 6)] else [])) (fun K2 hK2 => ?_) (fun a ha => ?_)
         ·refine awp_last tab_ok mixed ?_
          refine W0 ?_
          refine ⟨⟨by show (0 : Int) ≤ (i : Int); omega, hc, rfl⟩, ?_⟩
          refine W0 ?_
          refine ⟨⟨by decide⟩, ?_⟩
          refine W0 ?_
          refine ⟨⟨nle rfl⟩, ?_⟩
          refine W0 ?_
          rw [Int.toNat_natCast]
          refine CallK.heapK (f45 x.s g (L.getD i lz).op had.kn) [] [(200, 200), (201, 201), (202, 202)] rfl rfl rfl ⟨.pq rfl, .same, trivial⟩ (allRz rfl rfl rfl rfl rfl rfl (rst_keepR rfl rfl) (.keepA) (us_keep)) 8000 rfl (fun r Hout hr => ?_) (fun r Hout hr => ?_)
          ·obtain ⟨rfl, rfl⟩ := hr
           rw [hn]
           refine W0 ?_
           refine tr (fun h2 => ?_) fun h2 => ?_
           ·have h2' : n = 2 := by omega
            have hj := hni 0 (by omega)
            have hj2 := hnb 0 (by omega)
            rw [Nat.add_zero] at hj hj2
            refine W0 ?_
            refine CallK.heapK (f46 x.s g hw) [] [(200, 200), (201, 201), (202, 202)] rfl rfl rfl ⟨.pq rfl, trivial⟩ (allRz rfl rfl rfl rfl rfl rfl (rst_keepR rfl rfl) (.keepA) (us_keep)) 9000 rfl (fun r Hout hr => ?_) (fun r Hout hr => ?_)
            ·obtain ⟨rfl, rfl⟩ := hr
             refine W0 ?_
             refine ⟨⟨by omega, by show (x.s.adr : Int) < 36864; omega, rfl⟩, ?_⟩
             refine W0 ?_
             refine ⟨⟨rfl, rfl, by show 0 + ((x.s.adr : Nat) : Int).toNat < 36864; omega, nle rfl⟩, ?_⟩
             refine W0 ?_
             exact hK2 _ (x.acc ++ [(x.s.adr, 6)]) (by rw [if_pos h2']) (SubS.mkN [] [(2, 2), (300, 300), (200, 200), (201, 201), (202, 202)] rfl rfl rfl ⟨⟨_, rfl, .same⟩, ⟨_, rfl, .pq rfl⟩, ⟨_, rfl, .same⟩, ⟨_, rfl, .pq rfl⟩, ⟨_, rfl, .rq rfl⟩, ⟨_, rfl, .same⟩, ⟨_, rfl, .same⟩, trivial⟩ ⟨.inl ⟨_, _, rfl, rfl, rfl, objB_le rfl rfl rfl rfl .nils .nils⟩, .inl ⟨_, _, rfl, rfl, rfl, wds_put (acc := x.acc) (k := x.s.adr) (v := 6) (k' := 0 + ((x.s.adr : Nat) : Int).toNat) (g := fun _ => i64 7) rfl rfl rfl rfl (by omega) hj rfl rfl⟩, .inl ⟨_, _, rfl, rfl, rfl, rst_keepR rfl rfl⟩, .inl ⟨_, _, rfl, rfl, rfl, .keepA⟩, .inl ⟨_, _, rfl, rfl, rfl, us_keep⟩, trivial⟩)
            ·exact hr.elim
           ·have h2' : ¬ n = 2 := by omega
            refine W0 ?_
            exact hK2 _ x.acc (by rw [if_neg h2', List.append_nil]) (SubS.mkN [] [(2, 2), (300, 300), (200, 200), (201, 201), (202, 202)] rfl rfl rfl ⟨⟨_, rfl, .same⟩, ⟨_, rfl, .pq rfl⟩, ⟨_, rfl, .same⟩, ⟨_, rfl, .pq rfl⟩, ⟨_, rfl, .rq rfl⟩, ⟨_, rfl, .same⟩, ⟨_, rfl, .same⟩, trivial⟩ ⟨.inl ⟨_, _, rfl, rfl, rfl, objB_le rfl rfl rfl rfl .nils .nils⟩, .inl ⟨_, _, rfl, rfl, rfl, wds_keep⟩, .inl ⟨_, _, rfl, rfl, rfl, rst_keepR rfl rfl⟩, .inl ⟨_, _, rfl, rfl, rfl, .keepA⟩, .inl ⟨_, _, rfl, rfl, rfl, us_keep⟩, trivial⟩)
          ·exact hr.elim
         ·subst ha
          have hln := hni (n - 1) (by omega)
          have hlb := hnb (n - 1) (by omega)
          have hcell : (x.acc ++ if n = 2 then [(x.s.adr, 6)] else []) ++ [(x.s.adr + (n - 1), w)] = x.acc ++ cellF x.s n w := by unfold cellF; rcases hn12 with h | h <;> rw [h] <;> simp
          have hnk : x.s.adr + (n - 1) ∉ (x.acc ++ if n = 2 then [(x.s.adr, 6)] else []).map Prod.fst := by
           rw [List.map_append, List.mem_append]
           rintro (h | h)
           ·exact hln h
           ·rcases hn12 with h1 | h1
            ·rw [if_neg (by omega)] at h; cases h
            ·rw [if_pos h1] at h; have := List.mem_singleton.mp h; dsimp only at this; omega
          refine awp_tree tab_ok mixed [0, 1, 3, 4, 5, 6, 7, 10, 11, 12, 13, 14, 15] [8] (.alt 0 (.alt 1 (.alt 3 (.alt 4 (.alt 5 (.alt 6 (.alt 7 (.alt 12 (.alt 13 (.alt 14 (.br 2 (.alt 8 (.alt 9 (.alt 10 (.alt 11 (.alt 15 (.alt 16 .done)))))) (.alt 8 (.alt 2 (.alt 9 (.alt 10 (.alt 11 (.alt 15 (.alt 16 .done)))))))))))))))))) (by kernel_rfl) (fun _ _ _ _ _ _ _ h => h) ?_
          conv => whnf
          repeat' (first | (refine W1 ?_) | exact trivial | (refine And2.mk ?_ ?_ <;> (conv => whnf)))
          refine ⟨⟨by omega, hc, rfl⟩, ?_⟩
          conv => whnf
          repeat' (first | (refine W1 ?_) | exact trivial | (refine And2.mk ?_ ?_ <;> (conv => whnf)))
          refine ⟨⟨by decide⟩, ?_⟩
          conv => whnf
          repeat' (first | (refine W1 ?_) | exact trivial | (refine And2.mk ?_ ?_ <;> (conv => whnf)))
          rw [wi64 (n := (w : Int)) (by omega) (by omega)]
          refine ⟨⟨by unfold inI64; omega⟩, ?_⟩
          conv => whnf
          repeat' (first | (refine W1 ?_) | exact trivial | (refine And2.mk ?_ ?_ <;> (conv => whnf)))
          ·refine CallK.heapK (f46 x.s g hw) [] [(200, 200), (201, 201), (202, 202)] rfl rfl rfl ⟨.pq rfl, trivial⟩ (allRz rfl rfl rfl rfl rfl rfl (rst_keep rfl rfl) (.keepA) (us_keep)) 7000 rfl (fun r Hout hr => ?_) (fun r Hout hr => ?_)
           ·obtain ⟨rfl, rfl⟩ := hr
            conv => whnf
            repeat' (first | (refine W1 ?_) | exact trivial | (refine And2.mk ?_ ?_ <;> (conv => whnf)))
            refine ⟨⟨nle rfl⟩, ?_⟩
            conv => whnf
            repeat' (first | (refine W1 ?_) | exact trivial | (refine And2.mk ?_ ?_ <;> (conv => whnf)))
            rw [Int.toNat_natCast]
            refine CallK.heapK (f45 x.s g (L.getD i lz).op had.kn) [] [(200, 200), (201, 201), (202, 202)] rfl rfl rfl ⟨.pq rfl, .same, trivial⟩ (allRz rfl rfl rfl rfl rfl rfl (rst_keepR rfl rfl) (.keepA) (us_keep)) 9000 rfl (fun r Hout hr => ?_) (fun r Hout hr => ?_)
            ·obtain ⟨rfl, rfl⟩ := hr
             rw [hn]
             conv => whnf
             repeat' (first | (refine W1 ?_) | exact trivial | (refine And2.mk ?_ ?_ <;> (conv => whnf)))
             refine ⟨⟨by unfold inI64; omega⟩, ?_⟩
             conv => whnf
             repeat' (first | (refine W1 ?_) | exact trivial | (refine And2.mk ?_ ?_ <;> (conv => whnf)))
             refine ⟨⟨by unfold inI64; omega⟩, ?_⟩
             conv => whnf
             repeat' (first | (refine W1 ?_) | exact trivial | (refine And2.mk ?_ ?_ <;> (conv => whnf)))
             refine ⟨⟨by omega, by show (x.s.adr : Int) + n - 1 < 36864; omega, rfl⟩, ?_⟩
             conv => whnf
             repeat' (first | (refine W1 ?_) | exact trivial | (refine And2.mk ?_ ?_ <;> (conv => whnf)))
             refine ⟨⟨rfl, rfl, by show 0 + ((x.s.adr : Int) + n - 1).toNat < 36864; omega, nle rfl⟩, ?_⟩
             conv => whnf
             repeat' (first | (refine W1 ?_) | exact trivial | (refine And2.mk ?_ ?_ <;> (conv => whnf)))
             exact hK _ ((x.acc ++ if n = 2 then [(x.s.adr, 6)] else []) ++ [(x.s.adr + (n - 1), w)]) (.inl ⟨hb, rfl, hlt16, hcell⟩) (SubS.mkN [] [(2, 2), (300, 300), (200, 200), (201, 201), (202, 202)] rfl rfl rfl ⟨⟨_, rfl, .same⟩, ⟨_, rfl, .pq rfl⟩, ⟨_, rfl, .same⟩, ⟨_, rfl, .pq rfl⟩, ⟨_, rfl, .rq rfl⟩, ⟨_, rfl, .same⟩, trivial⟩ ⟨.inl ⟨_, _, rfl, rfl, rfl, objB_le rfl rfl rfl rfl .nils .nils⟩, .inl ⟨_, _, rfl, rfl, rfl, wds_put (acc := x.acc ++ if n = 2 then [(x.s.adr, 6)] else []) (k := x.s.adr + (n - 1)) (v := w) (k' := 0 + ((x.s.adr : Int) + n - 1).toNat) (g := fun _ => i64 ((w : Int) + 1)) rfl rfl rfl rfl (by omega) hnk rfl rfl⟩, .inl ⟨_, _, rfl, rfl, rfl, rst_keepR rfl rfl⟩, .inl ⟨_, _, rfl, rfl, rfl, .keepA⟩, .inl ⟨_, _, rfl, rfl, rfl, us_keep⟩, trivial⟩)
            ·exact hr.elim
           ·exact hr.elim
          ·refine ⟨⟨nle rfl⟩, ?_⟩
           conv => whnf
           repeat' (first | (refine W1 ?_) | exact trivial | (refine And2.mk ?_ ?_ <;> (conv => whnf)))
           refine CallK.heapK (f46 x.s g hw) [] [(200, 200), (201, 201), (202, 202)] rfl rfl rfl ⟨.pq rfl, trivial⟩ (allRz rfl rfl rfl rfl rfl rfl (rst_keep rfl rfl) (.keepA) (us_keep)) 7000 rfl (fun r Hout hr => ?_) (fun r Hout hr => ?_)
           ·obtain ⟨rfl, rfl⟩ := hr
            conv => whnf
            repeat' (first | (refine W1 ?_) | exact trivial | (refine And2.mk ?_ ?_ <;> (conv => whnf)))
            rw [Int.toNat_natCast]
            refine CallK.heapK (f45 x.s g (L.getD i lz).op had.kn) [] [(200, 200), (201, 201), (202, 202)] rfl rfl rfl ⟨.pq rfl, .same, trivial⟩ (allRz rfl rfl rfl rfl rfl rfl (rst_keepR rfl rfl) (.keepA) (us_keep)) 9000 rfl (fun r Hout hr => ?_) (fun r Hout hr => ?_)
            ·obtain ⟨rfl, rfl⟩ := hr
             rw [hn]
             conv => whnf
             repeat' (first | (refine W1 ?_) | exact trivial | (refine And2.mk ?_ ?_ <;> (conv => whnf)))
             refine ⟨⟨by unfold inI64; omega⟩, ?_⟩
             conv => whnf
             repeat' (first | (refine W1 ?_) | exact trivial | (refine And2.mk ?_ ?_ <;> (conv => whnf)))
             refine ⟨⟨by unfold inI64; omega⟩, ?_⟩
             conv => whnf
             repeat' (first | (refine W1 ?_) | exact trivial | (refine And2.mk ?_ ?_ <;> (conv => whnf)))
             refine ⟨⟨by omega, by show (x.s.adr : Int) + n - 1 < 36864; omega, rfl⟩, ?_⟩
             conv => whnf
             repeat' (first | (refine W1 ?_) | exact trivial | (refine And2.mk ?_ ?_ <;> (conv => whnf)))
             refine ⟨⟨rfl, rfl, by show 0 + ((x.s.adr : Int) + n - 1).toNat < 36864; omega, nle rfl⟩, ?_⟩
             conv => whnf
             repeat' (first | (refine W1 ?_) | exact trivial | (refine And2.mk ?_ ?_ <;> (conv => whnf)))
             exact hK _ ((x.acc ++ if n = 2 then [(x.s.adr, 6)] else []) ++ [(x.s.adr + (n - 1), w)]) (.inl ⟨hb, rfl, hlt16, hcell⟩) (SubS.mkN [] [(2, 2), (300, 300), (200, 200), (201, 201), (202, 202)] rfl rfl rfl ⟨⟨_, rfl, .same⟩, ⟨_, rfl, .pq rfl⟩, ⟨_, rfl, .same⟩, ⟨_, rfl, .pq rfl⟩, ⟨_, rfl, .rq rfl⟩, ⟨_, rfl, .same⟩, trivial⟩ ⟨.inl ⟨_, _, rfl, rfl, rfl, objB_le rfl rfl rfl rfl .nils .nils⟩, .inl ⟨_, _, rfl, rfl, rfl, wds_put (acc := x.acc ++ if n = 2 then [(x.s.adr, 6)] else []) (k := x.s.adr + (n - 1)) (v := w) (k' := 0 + ((x.s.adr : Int) + n - 1).toNat) (g := fun _ => i64 ((w : Int) + 1)) rfl rfl rfl rfl (by omega) hnk rfl rfl⟩, .inl ⟨_, _, rfl, rfl, rfl, rst_keepR rfl rfl⟩, .inl ⟨_, _, rfl, rfl, rfl, .keepA⟩, .inl ⟨_, _, rfl, rfl, rfl, us_keep⟩, trivial⟩)
            ·exact hr.elim
           ·exact hr.elim
       ·exact hr.elim
      ·refine awp_last tab_ok mixed ?_
       refine W0 ?_
       exact hK _ x.acc (.inr ⟨hb, rfl⟩) (SubS.mkN [] [(2, 2), (300, 300), (200, 200), (201, 201), (202, 202)] rfl rfl rfl ⟨⟨_, rfl, .same⟩, ⟨_, rfl, .pq rfl⟩, ⟨_, rfl, .same⟩, ⟨_, rfl, .pq rfl⟩, ⟨_, rfl, .rq rfl⟩, ⟨_, rfl, .same⟩, trivial⟩ ⟨.inl ⟨_, _, rfl, rfl, rfl, objB_le rfl rfl rfl rfl .nils .nils⟩, .inl ⟨_, _, rfl, rfl, rfl, wds_keep⟩, .inl ⟨_, _, rfl, rfl, rfl, rst_keepR rfl rfl⟩, .inl ⟨_, _, rfl, rfl, rfl, .keepA⟩, .inl ⟨_, _, rfl, rfl, rfl, us_keep⟩, trivial⟩)
     ·exact hr.elim
    ·have hI1 : sndI L sF (i + 1) ⟨s1, a, 0⟩ := snd_next hlt hI hs1 (by rw [hn, hwe]; exact ha.imp (fun h => ⟨h.1, h.2.1, h.2.2.2⟩) id)
     have hv1 : ∀ q ∈ a, q.2 < 65536 := by
      rcases ha with ⟨_, _, hw16, rfl⟩ | ⟨_, rfl⟩
      ·intro q hq
       rcases List.mem_append.mp hq with h | h
       ·exact hv q h
       ·unfold cellF at h
        split at h
        ·rcases List.mem_cons.mp h with rfl | h
         ·exact (by decide : (6 : Nat) < 65536)
         ·rw [List.mem_singleton.mp h]; exact hw16
        ·rw [List.mem_singleton.mp h]; exact hw16
      ·exact hv
     have hl1 := step_len hs1
     refine awp_last tab_ok mixed ?_
     refine W0 ?_
     refine ⟨⟨by show (0 : Int) ≤ (i : Int); omega, hc, rfl⟩, ?_⟩
     refine W0 ?_
     refine ⟨⟨nle rfl⟩, ?_⟩
     refine W0 ?_
     rw [Int.toNat_natCast]
     refine CallK.heapK (f47 x.s g (L.getD i lz) hx (by omega) hw) [] [(200, 200), (201, 201), (202, 202)] rfl rfl rfl ⟨.pq rfl, lineV .same .same .same .same .same, trivial⟩ (allRz rfl rfl rfl rfl rfl rfl (rst_keep rfl rfl) (.keepA) (us_keep)) 9000 rfl (fun r Hout hr => ?_) (fun r Hout hr => ?_)
     ·rw [hs1] at hr
      obtain ⟨rfl, g', rfl⟩ := hr
      refine W0 ?_
      refine awp_last tab_ok mixed ?_
      refine W0 ?_
      refine ⟨⟨by show inI64 ((i : Int) + 1); unfold inI64; omega⟩, ?_⟩
      refine W0 ?_
      exact ⟨(⟨s1, a, 0⟩, i + 1, g'), ⟨hlt, hI1, by dsimp only; omega, hv1⟩, (SubS.mkN [] [(2, 2), (300, 300), (200, 200), (201, 201), (202, 202)] rfl rfl rfl ⟨⟨_, rfl, .same⟩, ⟨_, rfl, .pq rfl⟩, ⟨_, rfl, .same⟩, ⟨_, rfl, .pq rfl⟩, ⟨_, rfl, .rq rfl⟩, ⟨_, rfl, .same⟩, trivial⟩ ⟨.inl ⟨_, _, rfl, rfl, rfl, objB_le rfl rfl rfl rfl .nils .nils⟩, .inl ⟨_, _, rfl, rfl, rfl, wds_keep⟩, .inl ⟨_, _, rfl, rfl, rfl, rst_keepR rfl rfl⟩, .inl ⟨_, _, rfl, rfl, rfl, .keepA⟩, .inl ⟨_, _, rfl, rfl, rfl, us_keep⟩, trivial⟩), by dsimp only; omega⟩
     ·exact hr.elim
   ·have hc : (L.length : Int) ≤ i := hc
    have hil : i = L.length := by omega
    subst hil
    obtain ⟨hcl, _, hss⟩ := snd_end hI
    have hsF := pass_wf _ _ _ _ hI.1 hI.2.1
    have e : asmR L = (⟨sortB ltC x.acc, sortB ltS sF.syms⟩, 0, 0) := by
     unfold asmR
     rw [if_neg hlen, hp]
     dsimp only
     rw [hcl]
    have hkeys : (x.acc.map Prod.fst).Nodup := hI.2.2.2 ▸ hI.1.nu
    have hkb : ∀ q ∈ x.acc, q.1 < 36864 := fun q hq => hI.1.used _ (hI.2.2.2 ▸ List.mem_map.mpr ⟨q, hq, rfl⟩)
    rw [e, ← cellsL_eq hkeys hkb]
    refine W0 ?_
    refine awp_loopI (fun y : Nat × Nat => y.1 ≤ 36864) (fun y => as2S L (sortB ltS sF.syms) x.acc y.1 y.2) (fun y => 36864 - y.1) (0, 0) (Nat.zero_le _)
     (SubS.mkN [] [(2, 2), (300, 300), (13, 13)] rfl rfl rfl ⟨⟨_, rfl, .pq rfl⟩, ⟨_, rfl, .rq rfl⟩, ⟨_, rfl, .pq rfl⟩, ⟨_, rfl, .same⟩, trivial⟩ ⟨.inl ⟨_, _, rfl, rfl, rfl, objB_le rfl rfl rfl rfl .nils .nils⟩, .inl ⟨_, _, rfl, rfl, rfl, wds_keep⟩, .inl ⟨_, _, rfl, rfl, rfl, objB_le rfl rfl rfl rfl (.void _ _ _) .same⟩, .inr (.inl ⟨rfl, rfl⟩), trivial⟩) ?_
    rintro ⟨k, h⟩ hk
    dsimp only at hk ⊢
    refine pW ?_
    refine tr (fun hc => ?_) fun hc => ?_
    ·have hklt : k < 36864 := by have hc : (k : Int) < 36864 := hc; omega
     refine W0 ?_
     refine awp_seq (awp_block ?_)
     refine pW ?_
     refine ⟨⟨by omega, by show (k : Int) < 36864; omega, rfl⟩, ?_⟩
     refine W0 ?_
     refine ⟨⟨rfl, rfl, by show 0 + ((k : Nat) : Int).toNat < 36864; omega, nle rfl⟩, ?_⟩
     refine W0 ?_
     have ek : 0 + ((k : Nat) : Int).toNat = k := by omega
     refine awp_cond rfl (fun h0 => ?_) (fun h0 => ?_)
     ·have h0 : 0 < wv x.acc (0 + ((k : Nat) : Int).toNat) := of_decide_eq_true h0
      rw [ek] at h0
      cases hq : fndC x.acc k with
      | none => unfold wv at h0; rw [hq] at h0; exact absurd h0 (by decide)
      | some q =>
        obtain ⟨hqm, hqk⟩ := fndC_some hq
        have hq16 := hv q hqm
        have hwv : wv x.acc k = (q.2 : Int) + 1 := by unfold wv; rw [hq]
        have hsu : cellsL x.acc (k + 1) = cellsL x.acc k ++ [q] := by show cellsL x.acc k ++ _ = _; rw [hq]
        have hle := cellsL_len x.acc k
        refine awp_tree tab_ok mixed [0, 2, 3, 4, 5, 7, 8, 12] [1, 6] (.alt 0 (.alt 2 (.alt 3 (.alt 4 (.alt 5 (.br 1 (.alt 6 (.alt 7 (.alt 8 (.alt 9 (.alt 10 (.alt 11 (.alt 12 (.alt 13 .done)))))))) (.alt 6 (.alt 7 (.alt 8 (.alt 9 (.br 1 (.alt 10 (.alt 11 (.alt 12 (.alt 13 .done)))) (.alt 10 (.alt 1 (.alt 11 (.alt 12 (.alt 13 .done)))))))))))))))) (by kernel_rfl) (fun _ _ _ _ _ _ _ h => h) ?_
        conv => whnf
        repeat' (first | (refine W1 ?_) | exact trivial | (refine And2.mk ?_ ?_ <;> (conv => whnf)))
        all_goals refine ⟨⟨by omega, by omega, rfl⟩, ?_⟩
        all_goals ((conv => whnf); repeat' (first | (refine W1 ?_) | exact trivial | (refine And2.mk ?_ ?_ <;> (conv => whnf))))
        all_goals refine ⟨⟨rfl, rfl, by show 0 + ((k : Nat) : Int).toNat < 36864; omega, nle rfl⟩, ?_⟩
        all_goals ((conv => whnf); repeat' (first | (refine W1 ?_) | exact trivial | (refine And2.mk ?_ ?_ <;> (conv => whnf))))
        all_goals rw [show wv x.acc (0 + ((k : Nat) : Int).toNat) = (q.2 : Int) + 1 by rw [ek, hwv]]
        all_goals refine ⟨⟨by unfold inI64; omega⟩, ?_⟩
        all_goals ((conv => whnf); repeat' (first | (refine W1 ?_) | exact trivial | (refine And2.mk ?_ ?_ <;> (conv => whnf))))
        all_goals refine ⟨⟨⟨rfl, rfl, rfl, nle rfl⟩, rfl, rfl, rfl, rfl, rfl, rfl, by show ((cellsL x.acc k).length + 1) * 16 ≤ 140737488355328; omega⟩, ?_⟩
        all_goals ((conv => whnf); repeat' (first | (refine W1 ?_) | exact trivial | (refine And2.mk ?_ ?_ <;> (conv => whnf))))
        all_goals refine awp_last tab_ok mixed ?_
        all_goals (refine W0 ?_)
        all_goals refine ⟨⟨by show inI64 ((k : Int) + 1); unfold inI64; omega⟩, ?_⟩
        all_goals (refine W0 ?_)
        all_goals refine ⟨(k + 1, h + 1), hklt, ?_, by dsimp only; omega⟩
        all_goals unfold as2S
        all_goals dsimp only
        all_goals rw [hsu]
        all_goals exact (SubS.mkN [] [(2, 2), (300, 300), (13, 13), (1000, 1000)] rfl rfl rfl ⟨⟨_, rfl, .pq rfl⟩, ⟨_, rfl, .rq rfl⟩, ⟨_, rfl, .pq rfl⟩, ⟨_, rfl, .same⟩, trivial⟩ ⟨.inl ⟨_, _, rfl, rfl, rfl, objB_le rfl rfl rfl rfl .nils .nils⟩, .inl ⟨_, _, rfl, rfl, rfl, wds_keep⟩, .inl ⟨_, _, rfl, rfl, rfl, objB_le rfl rfl rfl rfl (.row _ _ _ _ _ _ _ _ _ rfl rfl rfl (by rw [List.length_append]; rfl)) .same⟩, .inl ⟨_, _, rfl, rfl, rfl, OLe.snocA rfl rfl rfl rfl rfl (fun j hj => match j, hj with | 0, _ => VLe.int (by rw [hqk]) | 1, _ => VLe.int (by show IntKind.u16.wrap ((q.2 : Int) + 1 - 1) = _; rw [w16]; omega))⟩, trivial⟩)
     ·have h0 : ¬ 0 < wv x.acc (0 + ((k : Nat) : Int).toNat) := of_decide_eq_false h0
      rw [ek] at h0
      have hsu : cellsL x.acc (k + 1) = cellsL x.acc k := by
       show cellsL x.acc k ++ _ = _
       cases hq : fndC x.acc k with
       | none => exact List.append_nil _
       | some q => unfold wv at h0; rw [hq] at h0; exact absurd (show (0 : Int) < (q.2 : Int) + 1 by omega) h0
      refine awp_last tab_ok mixed ?_
      refine W0 ?_
      refine awp_last tab_ok mixed ?_
      refine W0 ?_
      refine ⟨⟨by show inI64 ((k : Int) + 1); unfold inI64; omega⟩, ?_⟩
      refine W0 ?_
      refine ⟨(k + 1, h), hklt, ?_, by dsimp only; omega⟩
      unfold as2S
      dsimp only
      rw [hsu]
      exact (SubS.mkN [] [(2, 2), (300, 300), (13, 13), (1000, 1000)] rfl rfl rfl ⟨⟨_, rfl, .pq rfl⟩, ⟨_, rfl, .rq rfl⟩, ⟨_, rfl, .pq rfl⟩, ⟨_, rfl, .same⟩, trivial⟩ ⟨.inl ⟨_, _, rfl, rfl, rfl, objB_le rfl rfl rfl rfl .nils .nils⟩, .inl ⟨_, _, rfl, rfl, rfl, wds_keep⟩, .inl ⟨_, _, rfl, rfl, rfl, objB_le rfl rfl rfl rfl (.rq rfl) .same⟩, .inl ⟨_, _, rfl, rfl, rfl, .keepA⟩, trivial⟩)
    ·have hke : k = 36864 := by have hc : (36864 : Int) ≤ k := hc; omega
     subst hke
     refine W0 ?_
     exact done_tup [objV ⟨cellsL x.acc 36864, sortB ltS sF.syms⟩, i64 0, i64 0] [1000] rfl ⟨objV_le (VLe.frzA (g := h) (L := cellsL x.acc 36864) rfl rfl rfl) .same, .same, .same, trivial⟩
set_option maxHeartbeats 2000000 in
theorem f23 (l : List Sym) (hl : l.length < 2 ^ 47) : PureCall Tryz.prog 23 [.pv (symsP l), .pv (symsP l)] (bb true) := by
 refine pr (by kernel_rfl) Tryz.func23 rfl rfl rfl ?_
 refine Wd ?_
 refine tr (fun h0 => ?_) fun h0 => ?_
 ·exact absurd rfl h0
 ·refine Wd ?_
  refine awp_loopI (fun i : Nat => i ≤ l.length) (fun i => mkSt 26 [(0, .pv (symsP l)), (1, .pv (symsP l)), (5, i64 i)] []) (fun i => l.length - i) 0 (Nat.zero_le _) (SubS.mk [] rfl ⟨⟨_, rfl, .same⟩, ⟨_, rfl, .same⟩, ⟨_, rfl, .same⟩, trivial⟩ trivial) ?_
  intro i hi
  refine pc ?_
  refine Wd ?_
  refine tr (fun hc => ?_) fun hc => ?_
  ·have hlt : i < l.length := by omega
   refine Wd ?_
   refine awp_seq (awp_block ?_)
   refine awp_last tab_ok mixed (ex_sq (ex_drawn (by kernel_rfl) ?_))
   refine Wl ?_
   refine ⟨⟨by omega, by omega, rfl⟩, ?_⟩
   refine Wd ?_
   refine Wl ?_
   refine ⟨⟨nle rfl⟩, ?_⟩
   refine Wd ?_
   refine Wl ?_
   refine ⟨⟨by omega, by omega, rfl⟩, ?_⟩
   refine Wd ?_
   refine Wl ?_
   refine ⟨⟨nle rfl⟩, ?_⟩
   refine Wd ?_
   refine Wl ?_
   refine AD.nil ⟨by kernel_rfl, ?_⟩
   refine Wd ?_
   refine Wd ?_
   refine ⟨fun h => ?_, fun _ => ?_⟩
   ·simp at h
   ·refine Wd ?_
    refine awp_last tab_ok mixed ?_
    refine Wd ?_
    refine ⟨⟨by unfold inI64; omega⟩, ?_⟩
    refine Wd ?_
    exact ⟨i + 1, hlt, SubS.mk [] rfl ⟨⟨_, rfl, .same⟩, ⟨_, rfl, .same⟩, ⟨_, rfl, .same⟩, trivial⟩ trivial, by omega⟩
  ·refine Wd ?_
   exact done_bool _ _ rfl rfl rfl
def objI (o : ObjR) : AO := objB (.pv (cellsP o.cells)) (.pv (symsP o.syms))
set_option maxHeartbeats 2000000 in
theorem f15 (o : ObjR) (hc : o.cells.length < 2 ^ 47) (hl : o.syms.length < 2 ^ 47) : PureCall Tryz.prog 15 [objV o, objV o] (bb true) := by
 refine pr (by kernel_rfl) Tryz.func15 rfl rfl rfl ?_
 refine Wd ?_
 refine tr (fun h0 => ?_) fun h0 => ?_
 ·refine Wd ?_
  refine c0f (f23 o.syms hl) ⟨.same, .same, trivial⟩ rfl ?_
  refine Wd ?_
  refine awp_loopI (fun i : Nat => i ≤ o.cells.length) (fun i => mkSt 39 [(2, .ptr 2 0 2 0 0), (3, .ptr 3 0 2 0 0), (5, i64 i)] [(2, objI o), (3, objI o)]) (fun i => o.cells.length - i) 0 (Nat.zero_le _) (SubS.mk [] rfl ⟨⟨_, rfl, .pq rfl⟩, ⟨_, rfl, .pq rfl⟩, ⟨_, rfl, .same⟩, trivial⟩ ⟨.inl ⟨_, _, rfl, rfl, rfl, objB_le rfl rfl rfl rfl .same .same⟩, .inl ⟨_, _, rfl, rfl, rfl, objB_le rfl rfl rfl rfl .same .same⟩, trivial⟩) ?_
  intro i hi
  refine pc ?_
  refine Wd ?_
  refine tr (fun hc1 => ?_) fun hc1 => ?_
  ·have hlt : i < o.cells.length := by omega
   refine Wd ?_
   refine awp_seq (awp_block ?_)
   refine awp_last tab_ok mixed (ex_sq (ex_drawn (by kernel_rfl) ?_))
   refine Wl ?_
   refine ⟨⟨by omega, by omega, rfl⟩, ?_⟩
   refine Wd ?_
   refine Wl ?_
   refine ⟨⟨nle rfl⟩, ?_⟩
   refine Wd ?_
   refine Wl ?_
   refine ⟨⟨by omega, by omega, rfl⟩, ?_⟩
   refine Wd ?_
   refine Wl ?_
   refine ⟨⟨nle rfl⟩, ?_⟩
   refine Wd ?_
   refine Wl ?_
   refine AD.nil ⟨by kernel_rfl, ?_⟩
   refine Wd ?_
   refine Wd ?_
   refine ⟨fun h => ?_, fun _ => ?_⟩
   ·simp at h
   ·refine Wd ?_
    refine awp_last tab_ok mixed ?_
    refine Wd ?_
    refine ⟨⟨by unfold inI64; omega⟩, ?_⟩
    refine Wd ?_
    exact ⟨i + 1, hlt, SubS.mk [] rfl ⟨⟨_, rfl, .pq rfl⟩, ⟨_, rfl, .pq rfl⟩, ⟨_, rfl, .same⟩, trivial⟩ ⟨.inl ⟨_, _, rfl, rfl, rfl, objB_le rfl rfl rfl rfl .same .same⟩, .inl ⟨_, _, rfl, rfl, rfl, objB_le rfl rfl rfl rfl .same .same⟩, trivial⟩, by omega⟩
  ·refine Wd ?_
   exact done_bool _ _ rfl rfl rfl
 ·exact absurd rfl h0
end Go.Proofs.YtkeecnoafjhhdaaGreatDoor
namespace Go.Proofs.YtkeecnoafjhhdaaGreatDoor
open Go Go.AM
theorem word_le {s : St} {sy : List Sym} {x : Line} (ha : Adm x) (h6 : 6 ≤ opK x.op) : (wordF s sy x).1 ≤ 32767 := by
 obtain ⟨hkk, hv1, hv2⟩ := prn_ok ha.pr
 have hal := ha.al
 have hrg := ha.rg
 unfold wordF
 split
 ·rename_i k6
  rw [k6] at hal hrg
  have hv : 0 ≤ x.arg.v ∧ x.arg.v ≤ 32767 := hrg (alw_num hal rfl rfl)
  dsimp only; omega
 rename_i k6
 split
 ·rename_i k7
  rw [k7] at hal hrg
  have hv : -16383 ≤ x.arg.v ∧ x.arg.v ≤ 16383 := hrg (alw_num hal rfl rfl)
  dsimp only; split <;> omega
 rename_i k7
 have enc : ∀ k, opK x.op = 11 → (encF (codeOf x.op) k).1 ≤ 32767 := fun k h => by
  have hc := codeK h
  have hb := bs_le (codeOf x.op) hc.2
  unfold encF
  split
  ·decide
  ·split
   ·decide
   ·dsimp only; omega
 have h12 := opK_lt ha.kn
 split
 ·rename_i k2
  split
  ·decide
  ·rename_i y hy
   have hr := fun k => reach_rng y x.arg.v k s.eb s.bank
   split
   ·have := hr 3; dsimp only; omega
   ·split
    ·have := abs_pos (y := y) (o := x.arg.v) (sp := 2) (by decide); dsimp only; omega
    ·split
     ·have := abs_pos (y := y) (o := x.arg.v) (sp := 1) (by decide); dsimp only; omega
     ·split
      ·exact (by decide : (0 : Nat) ≤ 32767)
      ·exact enc _ (by omega)
 ·rename_i k2
  refine enc _ ?_
  by_cases k8 : opK x.op = 8
  ·rw [k8] at hal; exact absurd (alw_sym hal rfl rfl hkk) k2
  by_cases k9 : opK x.op = 9
  ·rw [k9] at hal; exact absurd (alw_sym hal rfl rfl hkk) k2
  by_cases k10 : opK x.op = 10
  ·rw [k10] at hal; exact absurd (alw_sym hal rfl rfl hkk) k2
  omega
structure CI (s : St) (acc : List (Nat × Nat)) : Prop where
 wf : Wf s
 ks : acc.map Prod.fst = s.used
 ws : ∀ q ∈ acc, q.2 ≤ 32767
theorem cell_ws {s : St} {n v : Nat} (h : v ≤ 32767) : ∀ q ∈ cellF s n v, q.2 ≤ 32767 := fun q hq => by
 unfold cellF at hq
 split at hq
 ·rcases List.mem_cons.mp hq with rfl | hq
  ·exact (by decide : 6 ≤ 32767)
  ·rw [List.mem_singleton.mp hq]; exact h
 ·rw [List.mem_singleton.mp hq]; exact h
theorem puts_op {l : Line} (h : putsB l = true) : l.op ≠ [] ∧ 6 ≤ opK l.op := by
 unfold putsB at h
 rw [Bool.and_eq_true] at h
 exact ⟨of_decide_eq_true h.1, of_decide_eq_true h.2⟩
theorem step_puts_adm {s s1 : St} {l : Line} (h : stepF s l = .ok s1) (hp : putsB l = true) : Adm l ∧ 6 ≤ opK l.op := by
 obtain ⟨h1, h2⟩ := puts_op hp
 rcases step_inv h with ⟨_, h3, _⟩ | ⟨h3, _⟩
 ·exact absurd h3 h1
 ·exact ⟨h3, h2⟩
theorem cells_ci {sy : List Sym} : ∀ (L : List Line) (i : Nat) (s : St) (acc cs : List (Nat × Nat)), CI s acc → cellsF sy L i s acc = .ok cs → ∃ s', passF L i s = .ok s' ∧ CI s' cs
 | [], i, s, acc, cs, h, e => ⟨s, rfl, by rw [← Except.ok.inj e]; exact h⟩
 | l :: L, i, s, acc, cs, h, e => by
   rw [cellsF_cons] at e
   rw [passF_cons]
   cases hp : putsB l with
   | true =>
     rw [hp, if_pos rfl] at e
     by_cases he : (wordF s sy l).2 ≠ 0
     ·rw [if_pos he] at e; cases e
     rw [if_neg he] at e
     cases hs : stepF s l with
     | error x => rw [hs] at e; cases e
     | ok s1 =>
       rw [hs] at e
       obtain ⟨hn, hu⟩ := step_puts hs hp
       obtain ⟨ha, h6⟩ := step_puts_adm hs hp
       refine cells_ci L (i + 1) s1 _ cs ⟨step_wf h.wf hs, ?_, fun q hq => ?_⟩ e
       ·rw [List.map_append, h.ks, cell_keys hn, hu]
       ·rcases List.mem_append.mp hq with hq | hq
        ·exact h.ws q hq
        ·exact cell_ws (word_le ha h6) q hq
   | false =>
     rw [hp, if_neg (by decide)] at e
     cases hs : stepF s l with
     | error x => rw [hs] at e; cases e
     | ok s1 =>
       rw [hs] at e
       exact cells_ci L (i + 1) s1 _ cs ⟨step_wf h.wf hs, by rw [h.ks, step_none hs hp], h.ws⟩ e
theorem pass_at : ∀ {L : List Line} {i : Nat} {s : St} {j : Nat} {e : Int}, passF L i s = .error (j, e) → i < j ∧ j ≤ i + L.length ∧ e ≠ 0
 | [], _, _, _, _, h => by cases h
 | l :: L, i, s, j, e, h => by
   rw [passF_cons] at h
   rw [List.length_cons]
   cases hs : stepF s l with
   | error e' =>
     rw [hs] at h
     have h1 : ((i + 1, e') : Nat × Int) = (j, e) := Except.error.inj h
     obtain ⟨rfl, rfl⟩ := Prod.mk.inj h1
     exact ⟨by omega, by omega, step_er hs⟩
   | ok s1 => rw [hs] at h; obtain ⟨a, b, c⟩ := pass_at h; exact ⟨by omega, by omega, c⟩
theorem cells_at {sy : List Sym} : ∀ {L : List Line} {i : Nat} {s : St} {acc : List (Nat × Nat)} {j : Nat} {e : Int}, cellsF sy L i s acc = .error (j, e) → i < j ∧ j ≤ i + L.length ∧ e ≠ 0
 | [], _, _, _, _, _, h => by cases h
 | l :: L, i, s, acc, j, e, h => by
   rw [cellsF_cons] at h
   rw [List.length_cons]
   cases hp : putsB l with
   | true =>
     rw [hp, if_pos rfl] at h
     by_cases he : (wordF s sy l).2 ≠ 0
     ·rw [if_pos he] at h
      have h1 : ((i + 1, (wordF s sy l).2) : Nat × Int) = (j, e) := Except.error.inj h
      obtain ⟨rfl, h2⟩ := Prod.mk.inj h1
      exact ⟨by omega, by omega, by rw [← h2]; exact he⟩
     rw [if_neg he] at h
     cases hs : stepF s l with
     | error e' =>
       rw [hs] at h
       have h1 : ((i + 1, e') : Nat × Int) = (j, e) := Except.error.inj h
       obtain ⟨rfl, rfl⟩ := Prod.mk.inj h1
       exact ⟨by omega, by omega, step_er hs⟩
     | ok s1 => rw [hs] at h; obtain ⟨a, b, c⟩ := cells_at h; exact ⟨by omega, by omega, c⟩
   | false =>
     rw [hp, if_neg (by decide)] at h
     cases hs : stepF s l with
     | error e' =>
       rw [hs] at h
       have h1 : ((i + 1, e') : Nat × Int) = (j, e) := Except.error.inj h
       obtain ⟨rfl, rfl⟩ := Prod.mk.inj h1
       exact ⟨by omega, by omega, step_er hs⟩
     | ok s1 => rw [hs] at h; obtain ⟨a, b, c⟩ := cells_at h; exact ⟨by omega, by omega, c⟩
theorem asm_cases (L : List Line) (hL : L.length ≤ 65536) : (∃ (i : Nat) (e : Int), i ≤ L.length ∧ 0 < i ∧ e ≠ 0 ∧ asmR L = (⟨[], []⟩, (i : Int), e)) ∨ (∃ sF cs, CI sF cs ∧ passF L 0 st0 = .ok sF ∧ cellsF sF.syms L 0 st0 [] = .ok cs ∧ asmR L = (⟨sortB ltC cs, sortB ltS sF.syms⟩, 0, 0) ∧ symbolsR L = (sortB ltS sF.syms, 0, 0)) := by
 unfold asmR symbolsR
 rw [if_neg (by omega), if_neg (by omega)]
 cases hp : passF L 0 st0 with
 | error x =>
   obtain ⟨j, e⟩ := x
   obtain ⟨a, b, c⟩ := pass_at hp
   exact .inl ⟨j, e, by omega, a, c, rfl⟩
 | ok sF =>
   dsimp only
   cases hc : cellsF sF.syms L 0 st0 [] with
   | error x =>
     obtain ⟨j, e⟩ := x
     obtain ⟨a, b, c⟩ := cells_at hc
     exact .inl ⟨j, e, by omega, a, c, rfl⟩
   | ok cs =>
     obtain ⟨s', h1, h2⟩ := cells_ci L 0 st0 [] cs ⟨wf0, rfl, fun q hq => absurd hq (List.not_mem_nil)⟩ hc
     obtain rfl : sF = s' := Except.ok.inj (hp.symm.trans h1)
     exact .inr ⟨sF, cs, h2, rfl, hc, rfl, rfl⟩
end Go.Proofs.YtkeecnoafjhhdaaGreatDoor
namespace Go.Proofs.YtkeecnoafjhhdaaGreatDoor
open Go Go.AM
attribute [local irreducible] AWP CallK PureCall SubS HeapCallK
def wcell (w : Nat) (_ : Nat) : PV := .int .u16 w
def wantP (l : List Nat) : PV := sqA 51 1 wcell 0 l
def KnownOK (src : List UInt8) (at0 : Nat) (want : List Nat) : Prop := (textR src).2 = (0, 0) ∧ (textR src).1.cells = (List.range want.length).map fun i => (at0 + i, want.getD i 0)
set_option maxHeartbeats 2000000 in
theorem f24 (src : List UInt8) (at0 : Nat) (want : List Nat) (hs : B62 src) (ha : at0 < 2 ^ 32) (hw : want.length < 2 ^ 32) (hk : KnownOK src at0 want) : PureCall Tryz.prog 24 [st src, i64 at0, .pv (wantP want)] (bb true) := by
 obtain ⟨h1, h2⟩ := hk
 obtain ⟨o, ho⟩ : ∃ o, textR src = (o, 0, 0) := ⟨(textR src).1, Prod.ext rfl h1⟩
 rw [ho] at h2
 have h2 : o.cells = (List.range want.length).map fun i => (at0 + i, want.getD i 0) := h2
 have hlen : o.cells.length = want.length := by rw [h2]; simp
 have hget : ∀ i, i < want.length → o.cells.getD i (0, 0) = (at0 + i, want.getD i 0) := fun i hi => by
  rw [h2, List.getD_eq_getElem?_getD, List.getElem?_map, List.getElem?_range hi]; rfl
 have h16 := f16 src hs
 rw [ho] at h16
 refine pr (by kernel_rfl) Tryz.func24 rfl rfl rfl ?_
 refine Wd ?_
 refine c0d h16 ⟨.same, trivial⟩ ?_
 refine Wd ?_
 refine an (by simp) ?_
 refine Wd ?_
 refine an (by simp) ?_
 refine Wd ?_
 refine tr (fun h0 => ?_) fun h0 => ?_
 ·exact absurd (by rw [hlen]) h0
 ·refine Wd ?_
  refine awp_loopI (fun i : Nat => i ≤ want.length) (fun i => mkSt 60 [(1, i64 at0), (2, .pv (wantP want)), (7, .ptr 7 0 2 0 0), (10, i64 i)] [(7, objI o)]) (fun i => want.length - i) 0 (Nat.zero_le _) (SubS.mk [] rfl ⟨⟨_, rfl, .same⟩, ⟨_, rfl, .same⟩, ⟨_, rfl, .pq rfl⟩, ⟨_, rfl, .same⟩, trivial⟩ ⟨.inl ⟨_, _, rfl, rfl, rfl, objB_le rfl rfl rfl rfl .same .same⟩, trivial⟩) ?_
  intro i hi
  refine pc ?_
  refine Wd ?_
  refine tr (fun hc => ?_) fun hc => ?_
  ·have hlt : i < want.length := by omega
   have hg := hget i hlt
   refine Wd ?_
   refine awp_seq (awp_block ?_)
   refine awp_last tab_ok mixed (ex_sq (ex_drawn (by kernel_rfl) ?_))
   refine Wl ?_
   refine ⟨⟨by omega, by rw [hlen]; omega, rfl⟩, ?_⟩
   refine Wd ?_
   refine Wl ?_
   refine ⟨⟨by decide⟩, ?_⟩
   refine Wd ?_
   refine Wl ?_
   refine ⟨⟨nle rfl⟩, ?_⟩
   refine Wd ?_
   refine Wl ?_
   refine ⟨⟨by unfold inI64; omega⟩, ?_⟩
   refine Wd ?_
   refine Wl ?_
   rw [Int.toNat_natCast, hg]
   refine AD.test rfl rfl rfl ⟨fun _ => ?_, fun h => absurd h (by show ¬ ((((at0 + i : Nat) : Int) != (at0 : Int) + i) = true); simp)⟩
   refine Wd ?_
   refine Wl ?_
   refine ⟨⟨by omega, by rw [hlen]; omega, rfl⟩, ?_⟩
   refine Wd ?_
   refine Wl ?_
   refine ⟨⟨by decide⟩, ?_⟩
   refine Wd ?_
   refine Wl ?_
   refine ⟨⟨nle rfl⟩, ?_⟩
   refine Wd ?_
   refine Wl ?_
   refine ⟨⟨by omega, by omega, rfl⟩, ?_⟩
   refine Wd ?_
   refine Wl ?_
   refine ⟨⟨nle rfl⟩, ?_⟩
   refine Wd ?_
   refine Wl ?_
   refine AD.nil ⟨by kernel_rfl, ?_⟩
   refine Wd ?_
   refine Wd ?_
   rw [Int.toNat_natCast, hg]
   refine ⟨fun h => absurd h (by show ¬ (((want.getD i 0 : Nat) : Int) != (want.getD i 0 : Nat)) = true; simp), fun _ => ?_⟩
   refine Wd ?_
   refine awp_last tab_ok mixed ?_
   refine Wd ?_
   refine ⟨⟨by unfold inI64; omega⟩, ?_⟩
   refine Wd ?_
   exact ⟨i + 1, hlt, SubS.mk [] rfl ⟨⟨_, rfl, .same⟩, ⟨_, rfl, .same⟩, ⟨_, rfl, .pq rfl⟩, ⟨_, rfl, .same⟩, trivial⟩ ⟨.inl ⟨_, _, rfl, rfl, rfl, objB_le rfl rfl rfl rfl .same .same⟩, trivial⟩, by omega⟩
  ·refine Wd ?_
   exact done_bool _ _ rfl rfl rfl
end Go.Proofs.YtkeecnoafjhhdaaGreatDoor
namespace Go.Proofs.YtkeecnoafjhhdaaGreatDoor
open Go Go.AM
attribute [local irreducible] AWP CallK PureCall SubS HeapCallK
def srcA : List UInt8 := [32, 66, 65, 78, 75, 32, 52, 10, 71, 79, 32, 67, 65, 32, 88, 10, 32, 77, 80, 32, 88, 10, 88, 32, 79, 67, 84, 32, 53]
def srcB : List UInt8 := [65, 32, 69, 82, 65, 83, 69, 32, 51, 10, 32, 84, 67, 32, 66]
instance (src : List UInt8) (a : Nat) (w : List Nat) : Decidable (KnownOK src a w) := by unfold KnownOK; infer_instance
def RefOK (src : List UInt8) (ln e : Int) : Prop := (textR src).1.cells.length = 0 ∧ (textR src).1.syms.length = 0 ∧ (textR src).2 = (ln, e)
instance (src : List UInt8) (ln e : Int) : Decidable (RefOK src ln e) := by unfold RefOK; infer_instance
theorem ref_eq {src : List UInt8} {ln e : Int} (h : RefOK src ln e) : textR src = (⟨[], []⟩, ln, e) := by
 obtain ⟨h1, h2, h3⟩ := h
 generalize textR src = x at *
 obtain ⟨⟨c, s⟩, y⟩ := x
 have g1 : c = [] := List.eq_nil_of_length_eq_zero h1
 have g2 : s = [] := List.eq_nil_of_length_eq_zero h2
 have g3 : y = (ln, e) := h3
 rw [g1, g2, g3]
theorem knA : KnownOK srcA 4096 [13315, 6, 29699, 5] := by decide +kernel
theorem rfB : RefOK srcB 2 7 := by decide +kernel
theorem cellsW {H : Heap} {B : List Nat} {U : List (Nat × Nat)} {F : Nat → Nat → AV} {L : List Nat} (h : ∀ i, i < L.length → VLe H B U (F i 0) (.pv (.int .u16 (L.getD i 0 : Nat)))) : CellsA H B U F wcell 0 1 L := fun i j hi hj => by
 have : j = 0 := by omega
 subst this; exact h i hi
attribute [local irreducible] textR
set_option maxHeartbeats 2000000 in
theorem f12 : PureCall Tryz.prog 12 [] (bb true) := by
 have h26 := f26 ⟨[], 1, 1300⟩ 0 1 5 2
 rw [show reachF ⟨[], 1, 1300⟩ 0 1 5 2 = (788, 0) by decide +kernel] at h26
 have h16 := f16 srcB (by unfold B62; decide)
 rw [ref_eq rfB] at h16
 have h24 := f24 srcA 4096 [13315, 6, 29699, 5] (by unfold B62; decide) (by decide) (by decide) knA
 refine pR (by kernel_rfl) Tryz.func12 rfl rfl rfl ?_
 refine c0f h26 ⟨symV .same .same .same, .same, .same, .same, .same, trivial⟩ rfl ?_
 refine W0 ?_
 refine c0d h16 ⟨.same, trivial⟩ ?_
 refine W0 ?_
 refine CallK.flat [16] h24 ⟨.same, .same, VLe.frzO (g := 0) rfl rfl (CellsA.row (cellsW fun i hi => ?_) rfl rfl rfl) rfl, trivial⟩ rfl ?_
 ·match i, hi with
  | 0, _ => exact .same
  | 1, _ => exact .same
  | 2, _ => exact .same
  | 3, _ => exact .same
 refine W0 ?_
 repeat (first | (refine W1 ?_) | (refine an (by decide +kernel) ?_; conv => whnf) | (refine na (by decide +kernel) ?_; conv => whnf) | fail)
 exact done_bool _ _ rfl rfl rfl
end Go.Proofs.YtkeecnoafjhhdaaGreatDoor
namespace Go.Proofs.YtkeecnoafjhhdaaGreatDoor
open Go Go.AM
attribute [local irreducible] AWP CallK PureCall SubS HeapCallK
theorem symR_len (L : List Line) : (symbolsR L).1.length ≤ L.length := by
 unfold symbolsR
 split
 ·exact Nat.zero_le _
 cases hp : passF L 0 st0 with
 | error x => exact Nat.zero_le _
 | ok s =>
   have := pass_len _ _ _ _ hp
   dsimp only
   rw [sort_len]
   have h0 : st0.syms.length = 0 := rfl
   omega
theorem asmR_len (L : List Line) : (asmR L).1.cells.length ≤ 36864 ∧ (asmR L).1.syms.length ≤ L.length := by
 by_cases hL : L.length ≤ 65536
 ·rcases asm_cases L hL with ⟨i, e, _, _, _, h⟩ | ⟨sF, cs, hc, hp, _, h, _⟩
  ·rw [h]; exact ⟨Nat.zero_le _, Nat.zero_le _⟩
  ·rw [h]
   dsimp only
   rw [sort_len, sort_len]
   have := pass_len _ _ _ _ hp
   have h0 : st0.syms.length = 0 := rfl
   have h1 := used_len hc.wf
   rw [← hc.ks, List.length_map] at h1
   exact ⟨h1, by omega⟩
 ·unfold asmR
  rw [if_pos (by omega)]
  exact ⟨Nat.zero_le _, Nat.zero_le _⟩
attribute [local irreducible] textR asmR symbolsR
set_option maxHeartbeats 2000000 in
theorem f7 (L : List Line) (hL : L.length < 2 ^ 46) (hB : ∀ l ∈ L, LineB l) : PureCall Tryz.prog 7 [.pv (linesP L)] (bb true) := by
 have h1 := f21 L (by omega) hB
 have h2 := f22 L (by omega) hB
 have hl := symR_len L
 generalize symbolsR L = x at h1 h2 hl
 obtain ⟨s, a, e⟩ := x
 have h3 := f23 s (by dsimp only at hl; omega)
 refine pR (by kernel_rfl) Tryz.func7 rfl rfl rfl ?_
 refine tr (fun h0 => ?_) fun h0 => ?_
 ·refine W0 ?_
  refine c0f f12 trivial rfl ?_
  refine W0 ?_
  exact done_bool _ _ rfl rfl rfl
 ·refine W0 ?_
  refine c0d h1 ⟨.same, trivial⟩ ?_
  refine W0 ?_
  refine c0d h2 ⟨.same, trivial⟩ ?_
  refine W0 ?_
  refine c0f h3 ⟨.same, .same, trivial⟩ rfl ?_
  refine W0 ?_
  repeat (first | (refine W1 ?_) | (refine c0f f12 trivial rfl ?_; conv => whnf) | (refine an (by simp <;> omega) ?_; conv => whnf) | fail)
  exact done_bool _ _ rfl rfl rfl
set_option maxHeartbeats 2000000 in
theorem f3 (L : List Line) (hL : L.length < 2 ^ 46) (hB : ∀ l ∈ L, LineB l) : PureCall Tryz.prog 3 [.pv (linesP L)] (bb true) := by
 have h1 := f13 L (by omega) hB
 have h2 := f14 L (by omega) hB
 have hl := asmR_len L
 generalize asmR L = x at h1 h2 hl
 obtain ⟨o, a, e⟩ := x
 have h3 := f15 o (by dsimp only at hl; omega) (by dsimp only at hl; omega)
 refine pR (by kernel_rfl) Tryz.func3 rfl rfl rfl ?_
 refine tr (fun h0 => ?_) fun h0 => ?_
 ·refine W0 ?_
  refine c0f f12 trivial rfl ?_
  refine W0 ?_
  exact done_bool _ _ rfl rfl rfl
 ·refine W0 ?_
  refine c0d h1 ⟨.same, trivial⟩ ?_
  refine W0 ?_
  refine c0d h2 ⟨.same, trivial⟩ ?_
  refine W0 ?_
  refine c0f h3 ⟨objV_le .same .same, objV_le .same .same, trivial⟩ rfl ?_
  refine W0 ?_
  repeat (first | (refine W1 ?_) | (refine c0f f12 trivial rfl ?_; conv => whnf) | (refine an (by simp <;> omega) ?_; conv => whnf) | fail)
  exact done_bool _ _ rfl rfl rfl
end Go.Proofs.YtkeecnoafjhhdaaGreatDoor
