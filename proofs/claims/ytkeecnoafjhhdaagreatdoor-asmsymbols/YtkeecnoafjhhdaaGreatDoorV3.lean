/- Part of the proof: what the functions that the law calls compute. -/
import Derived.Test.YtkeecnoafjhhdaaGreatDoorV2
import Derived.Test.YtkeecnoafjhhdaaGreatDoorV1
namespace Go.Proofs.YtkeecnoafjhhdaaGreatDoor
open Go Go.AM
attribute [local irreducible] AWP CallK PureCall SubS HeapCallK
def cellsP (l : List (Nat × Nat)) : PV := sqA 55 2 cellP (0, 0) l
def objV (o : ObjR) : AV := .agg 2 (getL [.pv (cellsP o.cells), .pv (symsP o.syms)])
def objT (x : ObjR × Int × Int) : AV := tupV [objV x.1, i64 x.2.1, i64 x.2.2]
def objB (a b : AV) : AO := ⟨27, 0, 2, 1, fun _ j => getL [a, b] j⟩
theorem objB_le {H : Heap} {B : List Nat} {U : List (Nat × Nat)} {o : AO} {a b : AV} (e1 : o.E = 27) (e2 : o.gen = 0) (e3 : o.sz = 2) (e4 : o.n = 1) (h0 : VLe H B U (o.f 0 0) a) (h1 : VLe H B U (o.f 0 1) b) : OLe H B U o (objB a b) :=
 ⟨e1.symm, e2.symm, e3.symm, Nat.le_of_eq e4.symm, fun i j hi hj => by
   have hi0 : i = 0 := Nat.lt_one_iff.mp hi
   subst hi0
   rw [e3] at hj
   match j, hj with
   | 0, _ => exact h0
   | 1, _ => exact h1⟩
theorem objV_le {H : Heap} {B : List Nat} {U : List (Nat × Nat)} {f : Nat → AV} {o : ObjR} (h0 : VLe H B U (f 0) (.pv (cellsP o.cells))) (h1 : VLe H B U (f 1) (.pv (symsP o.syms))) : VLe H B U (.agg 2 f) (objV o) := .agg _ _ _ fun i hi => match i, hi with
 | 0, _ => h0
 | 1, _ => h1
def asmS (s : St) (L : List Line) : ASt := mkSt 80 [(0, .pv (linesP L)), (2, .ptr 2 0 2 0 0), (5, .ptr 200 0 44 0 0), (8, .ptr 100 0 44 0 0)] ((2, objB .nilS .nilS) :: (200, asO (asOf s) 201 102 103) :: (201, opsO) :: asH (as2 st0 64) s.syms (w6 s.used))
def asmP (s : St) (L : List Line) : ASt := mkSt 80 [(0, .pv (linesP L)), (2, .ptr 2 0 2 0 0), (5, .ptr 200 0 44 0 0), (8, .ptr 100 0 44 0 0)] [(2, objB .nilS .nilS), (200, asO (asOf s) 201 102 103), (201, opsO), (100, asO asZ 101 302 303), (101, opsO), (302, symO []), (303, wrdO []), (102, symO s.syms), (103, wrdO (w6 s.used))]
def as9S (x : S2) (s : St) (g : Nat) : ASt := mkSt 80 [(2, .ptr 2 0 2 0 0), (8, .ptr 100 0 44 0 0), (11, .ptr 11 0 2 0 0)] ((2, objB .nilS .nilS) :: (11, objB .nilS (.row 300 g 3 0 s.syms.length)) :: (300, rowA 65 3 Sym.p sz0 g (sortB ltS s.syms)) :: asH (as2 x.s x.e) s.syms x.acc)
theorem wrd_g {w : List (Nat × Nat)} {i : Nat} (h : i < w.length) : (wrdO w).f i 0 = i64 (w.getD i (0, 0)).1 ∧ (wrdO w).f i 1 = u16 (w.getD i (0, 0)).2 := by
 have e : w.getD i (0, 0) = w[i] := by rw [List.getD_eq_getElem?_getD, List.getElem?_eq_getElem h]; rfl
 rw [e]; exact wrd_f h
theorem used_len {s : St} (h : Wf s) : s.used.length ≤ 36864 := by
 have h1 : s.used.length ≤ (List.range 36864).length := h.nu.length_le_of_subset fun j hj => List.mem_range.mpr (h.used j hj)
 simpa using h1
def lpS (x : S2) (s : St) (g : Nat) (P : List Nat × Nat) : ASt := mkSt 80 [(2, .ptr 2 0 2 0 0), (11, .ptr 11 0 2 0 0), (62, .obj 62 2)] [(2, objB .nilS .nilS), (11, objB (.row 1000 P.2 2 0 (outX x.acc (0, 0) P.1).length) (.row 300 g 3 0 s.syms.length)), (1000, rowA 55 2 cellP (0, 0) P.2 (outX x.acc (0, 0) P.1)), (300, rowA 65 3 Sym.p sz0 g (sortB ltS s.syms)), (103, wrdO x.acc), (62, itP 103 0 x.acc.length P.1)]
def as14S (x : S2) (s : St) (g : Nat) (P : List Nat × Nat) : ASt := mkSt 80 [(2, .ptr 2 0 2 0 0), (11, .ptr 11 0 2 0 0)] [(2, objB .nilS .nilS), (11, objB (.row 1000 P.2 2 0 (outX x.acc (0, 0) P.1).length) (.row 300 g 3 0 s.syms.length)), (1000, rowA 55 2 cellP (0, 0) P.2 (outX x.acc (0, 0) P.1)), (300, rowA 65 3 Sym.p sz0 g (sortB ltS s.syms))]
theorem key_dist : ∀ {l : List (Nat × Nat)}, (l.map Prod.fst).Nodup → ∀ {a b : Nat × Nat}, a ∈ l → b ∈ l → a.1 = b.1 → a = b
 | [], _, _, _, ha, _, _ => absurd ha List.not_mem_nil
 | q :: l, h, a, b, ha, hb, e => by
   rw [List.map_cons, List.nodup_cons] at h
   rcases List.mem_cons.mp ha with rfl | ha
   ·rcases List.mem_cons.mp hb with rfl | hb
    ·rfl
    ·exact absurd (List.mem_map.mpr ⟨b, ‹b ∈ l›, e.symm⟩ : a.1 ∈ l.map Prod.fst) h.1
   ·rcases List.mem_cons.mp hb with rfl | hb
    ·exact absurd (List.mem_map.mpr ⟨a, ‹a ∈ l›, e⟩ : b.1 ∈ l.map Prod.fst) h.1
    ·exact key_dist h.2 ha hb e
theorem sortC_perm {l m : List (Nat × Nat)} (hp : m.Perm l) (h : (l.map Prod.fst).Nodup) : sortB ltC m = sortB ltC l :=
 sortB_uniq ltC_asy ltC_tr ((sortB_perm ltC m).trans hp) (sortB_sorted ltC_asy ltC_tr m) fun a ha b hb h1 h2 => by
  unfold ltC at h1 h2
  have h1 := of_decide_eq_false h1
  have h2 := of_decide_eq_false h2
  have e : a.1 = b.1 := by omega
  exact key_dist h ha hb e
set_option maxHeartbeats 2000000 in
theorem f13 (L : List Line) (hL : L.length < 2 ^ 47) (hB : ∀ l ∈ L, LineB l) : PureCall Tryz.prog 13 [.pv (linesP L)] (objT (asmR L)) := by
 refine PureCall.body tab_ok (by kernel_rfl) Tryz.func13 rfl rfl rfl ?_
 refine pc ?_
 refine W0 ?_
 refine pc ?_
 refine W0 ?_
 refine CallK.heapK (f34 L hL hB) [] [] rfl rfl rfl ⟨.same, trivial⟩ trivial 2000 rfl (fun r Hout hr => ?_) (fun r Hout hr => hr.elim)
 rcases hr with ⟨hlen, rfl, rfl⟩ | ⟨hlen, s, hw, hp, rfl, rfl⟩ | ⟨hlen, i, e, a, l, w, hp, he, rfl, rfl⟩
 ·have e : asmR L = (⟨[], []⟩, 0, 4) := by unfold asmR; rw [if_pos hlen]
  rw [e]
  refine W0 ?_
  refine pc ?_
  refine W0 ?_
  refine ⟨fun _ => ?_, fun h => absurd (nm h) (by decide)⟩
  refine W0 ?_
  exact done_tup [objV ⟨[], []⟩, i64 0, i64 4] [] rfl ⟨objV_le VLe.nilA VLe.nilA, .same, .same, trivial⟩
 ·refine W0 ?_
  refine pc ?_
  refine W0 ?_
  refine ⟨fun h => absurd rfl (nm h), fun _ => ?_⟩
  refine W0 ?_
  refine awp_pieceM tab_ok mixed (asmP s L) True (fun K hK => ?_) (fun _ => ?_)
  ·refine W0 ?_
   refine CallK.heapK f35 [] [] rfl rfl rfl trivial trivial 3000 rfl (fun r Hout hr => ?_) (fun r Hout hr => hr.elim)
   obtain ⟨rfl, rfl⟩ := hr
   refine W0 ?_
   exact hK _ trivial (SubS.mkN [] [(2, 2), (200, 2100), (201, 2101), (102, 2102), (103, 2103), (100, 3100), (101, 3101), (302, 3102), (303, 3103)] rfl rfl rfl ⟨⟨_, rfl, .same⟩, ⟨_, rfl, .pq rfl⟩, ⟨_, rfl, .pq rfl⟩, ⟨_, rfl, .pq rfl⟩, trivial⟩
    ⟨.inl ⟨_, _, rfl, rfl, rfl, objB_le rfl rfl rfl rfl .nils .nils⟩, .inl ⟨_, _, rfl, rfl, rfl, asLe rfl rfl rfl rfl .same .same .same .same .same (.obj _ _ _ _ rfl rfl) (.obj _ _ _ _ rfl rfl) (.obj _ _ _ _ rfl rfl) fun _ _ => .same⟩, .inr (.inr ⟨_, _, rfl, rfl, rfl, ops_keepR⟩), .inl ⟨_, _, rfl, rfl, rfl, asLe rfl rfl rfl rfl .same .same .same .same .same (.obj _ _ _ _ rfl rfl) (.obj _ _ _ _ rfl rfl) (.obj _ _ _ _ rfl rfl) fun _ _ => .same⟩, .inr (.inr ⟨_, _, rfl, rfl, rfl, ops_keepR⟩), .inr (.inr ⟨_, _, rfl, rfl, rfl, sym_keepR⟩), .inr (.inr ⟨_, _, rfl, rfl, rfl, wrd_keepR⟩), .inr (.inr ⟨_, _, rfl, rfl, rfl, sym_keepR⟩), .inr (.inr ⟨_, _, rfl, rfl, rfl, wrd_keepR⟩), trivial⟩)
  unfold asmP
  refine awp_pieceM tab_ok mixed (asmS s L) True (fun K hK => ?_) (fun _ => ?_)
  ·refine W0 ?_
   refine W0 ?_
   refine ⟨rfl, ?_⟩
   refine W0 ?_
   exact hK _ trivial (SubS.mkN [] [(2, 2), (200, 200), (201, 201), (102, 102), (103, 103), (100, 100), (101, 101)] rfl rfl rfl ⟨⟨_, rfl, .same⟩, ⟨_, rfl, .pq rfl⟩, ⟨_, rfl, .pq rfl⟩, ⟨_, rfl, .pq rfl⟩, trivial⟩
    ⟨.inl ⟨_, _, rfl, rfl, rfl, objB_le rfl rfl rfl rfl .nils .nils⟩, .inl ⟨_, _, rfl, rfl, rfl, asLe rfl rfl rfl rfl .same .same .same .same .same (.obj _ _ _ _ rfl rfl) (.obj _ _ _ _ rfl rfl) (.obj _ _ _ _ rfl rfl) fun _ _ => .same⟩, .inr (.inr ⟨_, _, rfl, rfl, rfl, ops_keep⟩), allAsz rfl rfl rfl rfl rfl (asLe rfl rfl rfl rfl .same .same .same .same .same (.obj _ _ _ _ rfl rfl) (.obj _ _ _ _ rfl rfl) (.obj _ _ _ _ rfl rfl) fun _ _ => .same) sym_keep wrd_keep⟩)
  unfold asmS
  refine pc ?_
  refine W0 ?_
  refine CallK.heapK (pass2 L s hL hw hp) [] [(100, 100), (101, 101), (102, 102), (103, 103)] rfl rfl rfl ⟨.same, procV (f := getL [.ptr 100 0 44 0 0]) (.pq rfl), trivial⟩ (allAsz rfl rfl rfl rfl rfl (as_keep rfl rfl rfl) sym_keep wrd_keep) 4000 rfl (fun r Hout hr => ?_) (fun r Hout hr => hr.elim)
  rcases hr with ⟨x, hI, rfl, rfl⟩ | ⟨i, x, e, hi, hI, ⟨hpt, hwe⟩, he, rfl, a, l, w, rfl⟩
  ·obtain ⟨hc, hxw, hxs⟩ := snd_end hI
   rw [hxw]
   refine W0 ?_
   refine ⟨fun h => absurd rfl (nm h), fun _ => ?_⟩
   refine W0 ?_
   have hsl := pass_len L 0 st0 s hp
   have hs0 : st0.syms.length = 0 := rfl
   refine awp_pieceX tab_ok mixed (fun g : Nat => as9S x s g) (fun _ => True) (fun K hK => ?_) (fun g _ => ?_)
   ·refine W0 ?_
    refine CallK.heapK (f38 s.syms (by omega) hw.nd) [] [(102, 102)] rfl rfl rfl ⟨.obj _ _ _ _ rfl rfl, trivial⟩ ⟨.inr (.inr ⟨_, _, rfl, rfl, rfl, sym_keepR⟩), trivial⟩ 5000 rfl (fun r Hout hr => ?_) (fun r Hout hr => hr.elim)
    obtain ⟨g, rfl, rfl⟩ := hr
    refine W0 ?_
    exact hK _ g trivial (SubS.mkN [] [(2, 2), (11, 11), (300, 5200), (100, 100), (101, 101), (102, 102), (103, 103)] rfl rfl rfl ⟨⟨_, rfl, .pq rfl⟩, ⟨_, rfl, .pq rfl⟩, ⟨_, rfl, .pq rfl⟩, trivial⟩
     ⟨.inl ⟨_, _, rfl, rfl, rfl, objB_le rfl rfl rfl rfl .nils .nils⟩, .inl ⟨_, _, rfl, rfl, rfl, objB_le rfl rfl rfl rfl .nils (.rq rfl)⟩, .inl ⟨_, _, rfl, rfl, rfl, .keepA⟩, .inl ⟨_, _, rfl, rfl, rfl, asLe rfl rfl rfl rfl .same .same .same .same .same (.obj _ _ _ _ rfl rfl) (.obj _ _ _ _ rfl rfl) (.obj _ _ _ _ rfl rfl) fun _ _ => .same⟩, .inr (.inr ⟨_, _, rfl, rfl, rfl, ops_keepR⟩), .inr (.inr ⟨_, _, rfl, rfl, rfl, sym_keepR⟩), .inr (.inr ⟨_, _, rfl, rfl, rfl, wrd_keepR⟩), trivial⟩)
   unfold as9S
   have hal : x.acc.length ≤ 36864 := by
    have := congrArg List.length hI.2.2.2
    rw [List.length_map] at this
    rw [this]; exact used_len hI.1
   refine awp_cut (fun P : List Nat × Nat => as14S x s g P) (fun P => (outX x.acc (0, 0) P.1).Perm x.acc) (fun K hK => ?_) (fun P hP => ?_)
   ·refine pc ?_
    refine W0 ?_
    refine awp_block (awp_loopI (fun P : List Nat × Nat => comeI x.acc.length P.1) (fun P => lpS x s g P) (fun P => x.acc.length - P.1.length) ([], 0) ⟨List.nodup_nil, fun _ h => absurd h List.not_mem_nil⟩ ?_ ?_)
    ·exact SubS.mkN [] [(2, 2), (11, 11), (300, 300), (103, 103), (62, 62)] rfl rfl rfl ⟨⟨_, rfl, .pq rfl⟩, ⟨_, rfl, .pq rfl⟩, ⟨_, rfl, .obj _ _ _ _ rfl rfl⟩, trivial⟩
      ⟨.inl ⟨_, _, rfl, rfl, rfl, objB_le rfl rfl rfl rfl .nils .nils⟩, .inl ⟨_, _, rfl, rfl, rfl, objB_le rfl rfl rfl rfl (.void _ _ _) (.rq rfl)⟩, .inr (.inl ⟨rfl, rfl⟩), .inl ⟨_, _, rfl, rfl, rfl, .keepA⟩, .inr (.inr ⟨_, _, rfl, rfl, rfl, wrd_keep⟩), .inr (.inr ⟨_, _, rfl, rfl, rfl, itLe (List.length_map ..) rfl rfl rfl (fun _ => .same) (.obj _ _ _ _ rfl rfl) .nils fun _ => .nils⟩), trivial⟩
    ·rintro ⟨P, h⟩ hP
     dsimp only at hP
     have hPl := come_len hP
     unfold lpS
     refine pc ?_
     refine W0 ?_
     refine ⟨List.length_map .., fun j hj hsj => ?_, fun hall => ?_⟩
     ·have hjl : j < x.acc.length := hj
      have hs0 : P.any (Nat.beq j) = false := by
       have h1 : (itP 103 0 x.acc.length P).f j 1 = .pv (.bool (P.any (Nat.beq j))) := rfl
       have h2 : AV.pv (.bool (P.any (Nat.beq j))) = .pv (.bool false) := h1.symm.trans hsj
       exact PV.bool.inj (AV.pv.inj h2)
      have hjP : j ∉ P := fun h => by
       rw [List.any_eq_false] at hs0
       exact hs0 j h (Nat.beq_refl j)
      refine W0 ?_
      refine pc ?_
      refine W0 ?_
      refine awp_block ?_
      refine pc ?_
      refine W0 ?_
      refine ⟨⟨List.length_map .., Int.natCast_nonneg _, by show (j : Int) < (((x.acc.map wrdP).length : Nat) : Int); rw [List.length_map]; omega⟩, ?_⟩
      refine W0 ?_
      rw [Int.toNat_natCast]
      have e0 : pairF ((wrdO x.acc).f j 0) ((wrdO x.acc).f j 1) 0 = i64 (x.acc.getD j (0, 0)).1 := (wrd_g hjl).1
      have e1 : pairF ((wrdO x.acc).f j 0) ((wrdO x.acc).f j 1) 1 = u16 (x.acc.getD j (0, 0)).2 := (wrd_g hjl).2
      rw [e0, e1]
      refine W0 ?_
      refine awp_last tab_ok mixed ?_
      refine W0 ?_
      refine ⟨⟨⟨rfl, rfl, rfl, nle rfl⟩, rfl, rfl, rfl, rfl, rfl, rfl, by show ((outX x.acc (0, 0) P).length + 1) * 16 ≤ 140737488355328; rw [outX_len]; omega⟩, ?_⟩
      refine W0 ?_
      refine W0 ?_
      have hPn : comeI x.acc.length (j :: P) := ⟨List.nodup_cons.mpr ⟨hjP, hP.1⟩, fun k hk => by rcases List.mem_cons.mp hk with rfl | hk; exact hjl; exact hP.2 k hk⟩
      have hPm := come_len hPn
      rw [List.length_cons] at hPm
      refine ⟨(j :: P, h + 1), hPn, SubS.mkN [] [(2, 2), (11, 11), (1000, 1000), (300, 300), (103, 103), (62, 62)] rfl rfl rfl ⟨⟨_, rfl, .pq rfl⟩, ⟨_, rfl, .pq rfl⟩, ⟨_, rfl, .obj _ _ _ _ rfl rfl⟩, trivial⟩ ⟨.inl ⟨_, _, rfl, rfl, rfl, objB_le rfl rfl rfl rfl .nils .nils⟩, .inl ⟨_, _, rfl, rfl, rfl, objB_le rfl rfl rfl rfl (.row _ _ _ _ _ _ _ _ _ rfl rfl rfl (by rw [outX_len, outX_len]; rfl)) (.rq rfl)⟩, .inl ⟨_, _, rfl, rfl, rfl, ?_⟩, .inl ⟨_, _, rfl, rfl, rfl, .keepA⟩, .inr (.inr ⟨_, _, rfl, rfl, rfl, wrd_keep⟩), .inr (.inr ⟨_, _, rfl, rfl, rfl, itP_see rfl (.inl rfl)⟩), trivial⟩, by dsimp only; rw [List.length_cons]; omega⟩
      dsimp only
      rw [outX_cons]
      refine OLe.snocA rfl rfl rfl rfl rfl fun k hk => ?_
      match k, hk with
      | 0, _ => exact .same
      | 1, _ => exact .same
     ·have hall' : ∀ j, j < x.acc.length → P.any (Nat.beq j) = true := fun j hj => by
       have h2 : AV.pv (.bool (P.any (Nat.beq j))) = .pv (.bool true) := hall j hj
       exact PV.bool.inj (AV.pv.inj h2)
      refine W0 ?_
      refine pc ?_
      refine W0 ?_
      exact hK _ (P, h) (come_all hP hall') (SubS.mkN [] [(2, 2), (11, 11), (1000, 1000), (300, 300)] rfl rfl rfl ⟨⟨_, rfl, .pq rfl⟩, ⟨_, rfl, .pq rfl⟩, trivial⟩ ⟨.inl ⟨_, _, rfl, rfl, rfl, objB_le rfl rfl rfl rfl .nils .nils⟩, .inl ⟨_, _, rfl, rfl, rfl, objB_le rfl rfl rfl rfl (.rq rfl) (.rq rfl)⟩, .inl ⟨_, _, rfl, rfl, rfl, .keepA⟩, .inl ⟨_, _, rfl, rfl, rfl, .keepA⟩, trivial⟩)
   ·have hnd : (x.acc.map Prod.fst).Nodup := by rw [hI.2.2.2]; exact hI.1.nu
    have hlen2 : (outX x.acc (0, 0) P.1).length = x.acc.length := hP.length_eq
    have hso := sortC_perm hP hnd
    have e : asmR L = (⟨sortB ltC x.acc, sortB ltS s.syms⟩, 0, 0) := by unfold asmR; rw [if_neg (by omega), hp]; dsimp only; rw [hc]
    rw [e]
    unfold as14S
    refine pc ?_
    refine W0 ?_
    refine callk_sort39 (l := outX x.acc (0, 0) P.1) rfl (by omega) ((hP.map Prod.fst).nodup_iff.mpr hnd) ?_
    rw [hso]
    refine W0 ?_
    refine awp_last tab_ok mixed ?_
    refine W0 ?_
    exact done_tup [objV ⟨sortB ltC x.acc, sortB ltS s.syms⟩, i64 0, i64 0] [1000, 300] rfl ⟨objV_le (VLe.frzA (g := P.2) (L := sortB ltC x.acc) rfl rfl (hlen2.trans (sortB_perm ltC x.acc).length_eq.symm)) (VLe.frzA (g := g) (L := sortB ltS s.syms) rfl rfl (sortB_perm ltS s.syms).length_eq.symm), .same, .same, trivial⟩
  ·have hc := snd_err hi hI hpt (by rw [hwe]; exact he)
   rw [hwe] at hc
   have e' : asmR L = (⟨[], []⟩, ((i + 1 : Nat) : Int), e) := by unfold asmR; rw [if_neg (by omega), hp]; dsimp only; rw [hc]
   rw [e']
   refine W0 ?_
   refine ⟨fun _ => ?_, fun h => absurd (nm h) he⟩
   refine W0 ?_
   exact done_tup [objV ⟨[], []⟩, i64 ((i + 1 : Nat) : Int), i64 e] [] rfl ⟨objV_le VLe.nilA VLe.nilA, .same, .same, trivial⟩
 ·have e' : asmR L = (⟨[], []⟩, (i : Int), e) := by unfold asmR; rw [if_neg (by omega), hp]
  rw [e']
  refine W0 ?_
  refine pc ?_
  refine W0 ?_
  refine ⟨fun _ => ?_, fun h => absurd (nm h) he⟩
  refine W0 ?_
  exact done_tup [objV ⟨[], []⟩, i64 i, i64 e] [] rfl ⟨objV_le VLe.nilA VLe.nilA, .same, .same, trivial⟩
set_option maxHeartbeats 2000000 in
theorem f16 (src : List UInt8) (hs : B62 src) : PureCall Tryz.prog 16 [st src] (objT (textR src)) := by
 refine pr (by kernel_rfl) Tryz.func16 rfl rfl rfl ?_
 refine W0 ?_
 refine c0d (tk28 src hs) ⟨.same, trivial⟩ ?_
 refine W0 ?_
 by_cases h : (scanAll src).2.2 = 0
 ·obtain ⟨h1, h2⟩ := scn_ok h
  have e : textR src = asmR (scanAll src).1 := by unfold textR; rw [if_neg (fun hh => hh h)]
  rw [e]
  refine ⟨fun hh => absurd h (nm hh), fun _ => ?_⟩
  refine W0 ?_
  refine c0d (f13 (scanAll src).1 (by omega) h2) ⟨.same, trivial⟩ ?_
  refine W0 ?_
  refine W0 ?_
  exact done_tup [objV (asmR (scanAll src).1).1, i64 (asmR (scanAll src).1).2.1, i64 (asmR (scanAll src).1).2.2] [] rfl ⟨objV_le .same .same, .same, .same, trivial⟩
 ·have e : textR src = (⟨[], []⟩, (scanAll src).2.1, (scanAll src).2.2) := by unfold textR; rw [if_pos h]
  rw [e]
  refine ⟨fun _ => ?_, fun hh => absurd (nm hh) h⟩
  refine W0 ?_
  exact done_tup [objV ⟨[], []⟩, i64 (scanAll src).2.1, i64 (scanAll src).2.2] [] rfl ⟨objV_le VLe.nilA VLe.nilA, .same, .same, trivial⟩
end Go.Proofs.YtkeecnoafjhhdaaGreatDoor
namespace Go.Proofs.YtkeecnoafjhhdaaGreatDoor
open Go Go.AM
theorem ins_at {α : Type} {lt : α → α → Bool} {d x : α} : ∀ {O : List α} {k : Nat}, k ≤ O.length → (∀ j, j < k → lt x (O.getD j d) = false) → (∀ j, k ≤ j → j < O.length → lt x (O.getD j d) = true) → insB lt x O = O.take k ++ x :: O.drop k
 | [], 0, _, _, _ => rfl
 | [], k + 1, h, _, _ => absurd h (by simp)
 | y :: ys, 0, _, _, hi => by
   have h0 : lt x y = true := hi 0 (Nat.le_refl _) (by simp)
   show (if lt x y then x :: y :: ys else y :: insB lt x ys) = _
   rw [if_pos h0]; rfl
 | y :: ys, k + 1, hk, lo, hi => by
   have h0 : lt x y = false := lo 0 (by omega)
   show (if lt x y then x :: y :: ys else y :: insB lt x ys) = _
   rw [if_neg (by rw [h0]; decide), ins_at (O := ys) (k := k) (by simpa using hk) (fun j hj => lo (j + 1) (by omega)) (fun j hj hl => hi (j + 1) (by omega) (by simpa using hl))]
   rfl
theorem ins_srt {α : Type} {lt : α → α → Bool} (tr : ∀ a b c, lt a b = false → lt b c = false → lt a c = false) {d x : α} {O : List α} {k : Nat} (hs : SrtB lt O) (hk : k ≤ O.length) (h0 : k = 0 ∨ lt x (O.getD (k - 1) d) = false) (j : Nat) (hj : j < k) : lt x (O.getD j d) = false := by
 rcases h0 with h0 | h0
 ·omega
 by_cases hj' : j = k - 1
 ·rw [hj']; exact h0
 refine tr _ _ _ h0 ?_
 rw [List.getD_eq_getElem?_getD, List.getD_eq_getElem?_getD, List.getElem?_eq_getElem (show j < O.length by omega), List.getElem?_eq_getElem (show k - 1 < O.length by omega)]
 exact List.pairwise_iff_getElem.mp hs j (k - 1) (by omega) (by omega) (by omega)
theorem sort_succ {α : Type} {lt : α → α → Bool} {d : α} {l : List α} {i : Nat} (h : i < l.length) : sortB lt (l.take (i + 1)) = insB lt (l.getD i d) (sortB lt (l.take i)) := by
 unfold sortB
 rw [List.take_add_one, List.getElem?_eq_getElem h, List.foldl_append, List.getD_eq_getElem?_getD, List.getElem?_eq_getElem h]
 rfl
theorem sort_len {α : Type} {lt : α → α → Bool} {l : List α} : (sortB lt l).length = l.length := (sortB_perm lt l).length_eq
end Go.Proofs.YtkeecnoafjhhdaaGreatDoor
namespace Go.Proofs.YtkeecnoafjhhdaaGreatDoor
open Go Go.AM
attribute [local irreducible] AWP CallK PureCall SubS HeapCallK
theorem f59 (n a b : Int) : PureCall Tryz.prog 59 [i64 n, i64 a, i64 b] (bb (decide (a ≤ n ∧ n ≤ b))) := by
 refine pr (by kernel_rfl) Tryz.func59 rfl rfl rfl ?_
 refine W0 ?_
 refine tr (fun h => ?_) fun h => ?_
 ·refine W0 ?_
  exact ⟨[], VLe.bool (by simp; omega)⟩
 ·refine W0 ?_
  exact ⟨[], VLe.bool (by simp; omega)⟩
theorem f133 (sp : Nat) (ad : Int) : PureCall Tryz.prog 133 [u8 sp, i64 ad] (bb (valS sp ad)) := by
 refine pr (by kernel_rfl) Tryz.func133 rfl rfl rfl ?_
 refine W0 ?_
 refine tr (fun h1 => ?_) fun h1 => ?_
 ·refine W0 ?_
  have e : valS sp ad = decide (0 ≤ ad ∧ ad ≤ 2047) := by unfold valS; rw [if_pos (by omega)]
  rw [e]
  refine c0f (f59 ad 0 2047) ⟨.same, .same, .same, trivial⟩ rfl ?_
  refine W0 ?_
  exact ⟨[], .same⟩
 ·refine W0 ?_
  refine ⟨fun h1' => ?_, fun h1' => ?_⟩ <;> replace h1' := nm h1' <;> (try rw [Int.toNat_zero] at h1') <;> (try rw [Int.toNat_one] at h1')
  ·refine W0 ?_
   have e : valS sp ad = decide (0 ≤ ad ∧ ad ≤ 36863) := by unfold valS; rw [if_neg (by omega), if_pos (by omega)]
   rw [e]
   refine c0f (f59 ad 0 36863) ⟨.same, .same, .same, trivial⟩ rfl ?_
   refine W0 ?_
   exact ⟨[], .same⟩
  ·refine W0 ?_
   have e : valS sp ad = decide (-65535 ≤ ad ∧ ad ≤ 65535) := by unfold valS; rw [if_neg (by omega), if_neg (by omega)]
   rw [e]
   refine c0f (f59 ad (-65535) 65535) ⟨.same, .same, .same, trivial⟩ rfl ?_
   refine W0 ?_
   exact ⟨[], .same⟩
theorem f86 (x : Line) : PureCall Tryz.prog 86 [x.av] (i64 (if x.arg.k = 0 then 1 else x.arg.v)) := by
 refine pr (by kernel_rfl) Tryz.func86 rfl rfl rfl ?_
 refine W0 ?_
 refine tr (fun h => ?_) fun h => ?_
 ·refine W0 ?_
  exact ⟨[], VLe.int (by rw [if_pos h])⟩
 ·refine W0 ?_
  exact ⟨[], VLe.int (by rw [if_neg h])⟩
def frmV (f : Frm) : AV := .agg 6 (getL [bb f.no, bb f.nu, bb f.sy, i64 f.lb, i64 f.lo, i64 f.hi])
theorem f84 (F : Frm) (x : Line) : PureCall Tryz.prog 84 [frmV F, x.av] (bb (alwB F x)) := by
 have e1 : (x.lab == []) = decide (x.lab = []) := bdec
 refine pr (by kernel_rfl) Tryz.func84 rfl rfl rfl ?_
 refine W0 ?_
 repeat' (first | (refine W1 ?_) | (refine And.intro ?_ ?_ <;> intro hc <;> replace hc := nm hc <;> (conv => whnf)))
 all_goals refine ⟨[], VLe.bool ?_⟩
 all_goals unfold alwB
 all_goals simp_all
 all_goals first | (intro _; omega) | (intro h; exact absurd hc (by omega)) | (intro h; omega)
theorem find_at : ∀ {l : List Sym} {n : List UInt8} {i : Nat}, i < l.length → (∀ j, j < i → (l.getD j sz0).nm ≠ n) → (l.getD i sz0).nm = n → findS l n = some (l.getD i sz0)
 | [], _, i, hi, _, _ => absurd hi (Nat.not_lt_zero i)
 | a :: l, n, 0, _, _, he => by
   unfold findS
   rw [List.find?_cons]
   have he : a.nm = n := he
   rw [show (a.nm == n) = true by simp [he]]; rfl
 | a :: l, n, i + 1, hi, hno, he => by
   unfold findS
   rw [List.find?_cons]
   have h0 : a.nm ≠ n := hno 0 (Nat.zero_lt_succ i)
   rw [show (a.nm == n) = false by simp [h0]]
   exact find_at (l := l) (Nat.lt_of_succ_lt_succ hi) (fun j hj => hno (j + 1) (Nat.succ_lt_succ hj)) he
theorem find_non {l : List Sym} {n : List UInt8} (h : ∀ j, j < l.length → (l.getD j sz0).nm ≠ n) : findS l n = none :=
 find_none.mpr fun x hx e => by
  obtain ⟨j, hj, rfl⟩ := List.getElem_of_mem hx
  exact h j hj (by rw [List.getD_eq_getElem?_getD, List.getElem?_eq_getElem hj]; exact e)
def fndT (x : Option Sym) : AV := tupV [(x.getD sz0).av, i64 (if x.isSome then 0 else 7)]
set_option maxHeartbeats 1000000 in
theorem f28 (l : List Sym) (n : List UInt8) (hl : l.length < 2 ^ 47) : PureCall Tryz.prog 28 [.pv (symsP l), st n] (fndT (findS l n)) := by
 refine pr (by kernel_rfl) Tryz.func28 rfl rfl rfl ?_
 refine W0 ?_
 refine ex_loop tab_ok mixed (fun i : Nat => i ≤ l.length ∧ ∀ j, j < i → (l.getD j sz0).nm ≠ n) (fun i => mkSt 25 [(0, .pv (symsP l)), (1, st n), (4, .ptr 4 0 3 0 0), (6, i64 i)] [(4, symB sz0)]) (fun i => l.length - i) 0 ⟨Nat.zero_le _, fun j hj => absurd hj (Nat.not_lt_zero j)⟩ (SubS.mk [] rfl ⟨⟨_, rfl, .same⟩, ⟨_, rfl, .same⟩, ⟨_, rfl, .pq rfl⟩, ⟨_, rfl, .same⟩, trivial⟩ ⟨.inl ⟨_, _, rfl, rfl, rfl, symB_le rfl rfl rfl rfl .same .same .same⟩, trivial⟩) ?_
 rintro i ⟨hi, hno⟩
 refine W0 ?_
 refine tr (fun hc => ?_) fun hc => ?_
 ·have hlt : i < l.length := by omega
  refine W0 ?_
  refine ⟨⟨by omega, by omega, rfl⟩, ?_⟩
  refine W0 ?_
  refine ⟨⟨by decide⟩, ?_⟩
  refine W0 ?_
  refine ⟨⟨nle rfl⟩, ?_⟩
  refine W0 ?_
  refine ⟨fun h => ?_, fun h => ?_⟩
  ·have he : (l.getD i sz0).nm = n := nm h
   rw [find_at hlt hno he]
   refine W0 ?_
   refine ⟨⟨by omega, by omega, rfl⟩, ?_⟩
   refine W0 ?_
   refine ⟨⟨nle rfl⟩, ?_⟩
   refine W0 ?_
   rw [Int.toNat_natCast]
   exact done_tup [(l.getD i sz0).av, i64 0] [] rfl ⟨symV .same .same .same, .same, trivial⟩
  ·have he : ¬ (l.getD i sz0).nm = n := nm h
   refine W0 ?_
   refine ⟨⟨by unfold inI64; omega⟩, ?_⟩
   refine W0 ?_
   exact ⟨i + 1, ⟨hlt, fun j hj => by rcases Nat.lt_or_ge j i with h | h; exact hno j h; rw [show j = i by omega]; exact he⟩, SubS.mk [] rfl ⟨⟨_, rfl, .same⟩, ⟨_, rfl, .same⟩, ⟨_, rfl, .pq rfl⟩, ⟨_, rfl, .same⟩, trivial⟩ ⟨.inl ⟨_, _, rfl, rfl, rfl, symB_le rfl rfl rfl rfl .same .same .same⟩, trivial⟩, by omega⟩
 ·refine W0 ?_
  have he : findS l n = none := find_non fun j hj => hno j (by omega)
  rw [he]
  exact done_tup [sz0.av, i64 7] [] rfl ⟨symV .same .same .same, .same, trivial⟩
def opZB : AO := ⟨45, 0, 6, 1, fun _ j => getL [u8 0, st [], bb false, u8 0, i64 0, i64 0] j⟩
theorem opZB_le {H : Heap} {B : List Nat} {U : List (Nat × Nat)} {o : AO} (e1 : o.E = 45) (e2 : o.gen = 0) (e3 : o.sz = 6) (e4 : o.n = 1) (h0 : VLe H B U (o.f 0 0) (u8 0)) (h1 : VLe H B U (o.f 0 1) (st [])) (h2 : VLe H B U (o.f 0 2) (bb false)) (h3 : VLe H B U (o.f 0 3) (u8 0)) (h4 : VLe H B U (o.f 0 4) (i64 0)) (h5 : VLe H B U (o.f 0 5) (i64 0)) : OLe H B U o opZB :=
 ⟨e1.symm, e2.symm, e3.symm, Nat.le_of_eq e4.symm, fun i j hi hj => by
   have hi0 : i = 0 := Nat.lt_one_iff.mp hi
   subst hi0
   rw [e3] at hj
   match j, hj with
   | 0, _ => exact h0
   | 1, _ => exact h1
   | 2, _ => exact h2
   | 3, _ => exact h3
   | 4, _ => exact h4
   | 5, _ => exact h5⟩
set_option maxHeartbeats 1000000 in
theorem f79 (n : List UInt8) : PureCall Tryz.prog 79 [st n] (findV n) := by
 refine pr (by kernel_rfl) Tryz.func79 rfl rfl rfl ?_
 refine W0 ?_
 refine c0d xk49 trivial ?_
 refine W0 ?_
 refine ex_loop tab_ok mixed (fun i : Nat => i ≤ 39 ∧ ∀ j, j < i → nmsL.getD j [] ≠ n) (fun i => mkSt 26 [(0, st n), (2, .ptr 2 0 6 0 0), (4, .pv (sqA 9 1 scell [] nmsL)), (5, i64 i)] [(2, opZB)]) (fun i => 39 - i) 0 ⟨Nat.zero_le _, fun j hj => absurd hj (Nat.not_lt_zero j)⟩ (SubS.mk [] rfl ⟨⟨_, rfl, .same⟩, ⟨_, rfl, .pq rfl⟩, ⟨_, rfl, .same⟩, ⟨_, rfl, .same⟩, trivial⟩ ⟨.inl ⟨_, _, rfl, rfl, rfl, opZB_le rfl rfl rfl rfl .same .same .same .same .same .same⟩, trivial⟩) ?_
 rintro i ⟨hi, hno⟩
 refine W0 ?_
 refine tr (fun hc => ?_) fun hc => ?_
 ·have hlt : i < 39 := by have : (i : Int) < 39 := hc; omega
  refine W0 ?_
  refine ⟨⟨by omega, by show (i : Int) < 39; omega, rfl⟩, ?_⟩
  refine W0 ?_
  refine ⟨⟨nle rfl⟩, ?_⟩
  refine W0 ?_
  refine ⟨fun h => ?_, fun h => ?_⟩
  ·have he : nmsL.getD i [] = n := nm h
   have hcode : codeOf n = i + 1 := by rw [← he]; exact code_at i hlt
   have e : findV n = tupV [opV (i + 1), i64 0] := by unfold findV; rw [hcode, if_neg (Nat.succ_ne_zero i), if_neg (Nat.succ_ne_zero i)]
   rw [e]
   refine W0 ?_
   refine ⟨⟨by unfold inI64; omega⟩, ?_⟩
   refine W0 ?_
   have ew : IntKind.u8.wrap ((i : Int) + 1) = ((i + 1 : Nat) : Int) := by rw [w8]; omega
   rw [ew]
   refine c0f (xk35 (i + 1) (by omega) (by omega)) ⟨.same, trivial⟩ rfl ?_
   refine W0 ?_
   exact done_tup [opV (i + 1), i64 0] [] rfl ⟨opG_le .same .same .same .same .same .same, .same, trivial⟩
  ·have he : ¬ nmsL.getD i [] = n := nm h
   refine W0 ?_
   refine ⟨⟨by unfold inI64; omega⟩, ?_⟩
   refine W0 ?_
   exact ⟨i + 1, ⟨hlt, fun j hj => by rcases Nat.lt_or_ge j i with h | h; exact hno j h; rw [show j = i by omega]; exact he⟩, SubS.mk [] rfl ⟨⟨_, rfl, .same⟩, ⟨_, rfl, .pq rfl⟩, ⟨_, rfl, .same⟩, ⟨_, rfl, .same⟩, trivial⟩ ⟨.inl ⟨_, _, rfl, rfl, rfl, opZB_le rfl rfl rfl rfl .same .same .same .same .same .same⟩, trivial⟩, by omega⟩
 ·refine W0 ?_
  have hge : (39 : Int) ≤ i := hc
  have hcode : codeOf n = 0 := code_no fun j hj => hno j (by omega)
  have e : findV n = tupV [opZ, i64 7] := by unfold findV; rw [hcode, if_pos rfl, if_pos rfl]
  rw [e]
  exact done_tup [opZ, i64 7] [] rfl ⟨opG_le .same .same .same .same .same .same, .same, trivial⟩
def formV (n : List UInt8) : AV := tupV [frmV (if opK n = 12 then ⟨false, false, false, 0, 0, 0⟩ else frmK (opK n) n), bb (decide (opK n ≠ 12))]
theorem frmV_le {H : Heap} {B : List Nat} {U : List (Nat × Nat)} {f : Nat → AV} {F : Frm} (h0 : VLe H B U (f 0) (bb F.no)) (h1 : VLe H B U (f 1) (bb F.nu)) (h2 : VLe H B U (f 2) (bb F.sy)) (h3 : VLe H B U (f 3) (i64 F.lb)) (h4 : VLe H B U (f 4) (i64 F.lo)) (h5 : VLe H B U (f 5) (i64 F.hi)) : VLe H B U (.agg 6 f) (frmV F) := .agg _ _ _ fun i hi => match i, hi with
 | 0, _ => h0
 | 1, _ => h1
 | 2, _ => h2
 | 3, _ => h3
 | 4, _ => h4
 | 5, _ => h5
theorem nm_of {k : Nat} {n : List UInt8} (hk : k < 11) : (n == (dirL.getD k ([], oprK 0 [] false)).1) = decide (opK n = k) := by
 by_cases h : n = (dirL.getD k ([], oprK 0 [] false)).1
 ·subst h; rw [beq_self_eq_true, dir_at k hk]; simp
 ·rw [beq_eq_false_iff_ne.mpr h]
  refine (decide_eq_false fun e => h ?_).symm
  refine Classical.byContradiction fun hne => ?_
  by_cases hex : ∃ i, i < 11 ∧ (dirL.getD i ([], oprK 0 [] false)).1 = n
  ·obtain ⟨i, hi, hin⟩ := hex
   have := dir_at i hi
   rw [hin, e] at this
   subst this
   exact h hin.symm
  ·have := opK_no fun i hi e' => hex ⟨i, hi, e'⟩
   rw [e] at this
   split at this <;> omega
set_option maxHeartbeats 2000000 in
theorem f83 (n : List UInt8) : PureCall Tryz.prog 83 [st n] (formV n) := by
 have h0 := nm_of (k := 0) (n := n) (by decide)
 have h1 := nm_of (k := 1) (n := n) (by decide)
 have h2 := nm_of (k := 2) (n := n) (by decide)
 have h3 := nm_of (k := 3) (n := n) (by decide)
 have h4 := nm_of (k := 4) (n := n) (by decide)
 have h5 := nm_of (k := 5) (n := n) (by decide)
 have h6 := nm_of (k := 6) (n := n) (by decide)
 have h7 := nm_of (k := 7) (n := n) (by decide)
 have h8 := nm_of (k := 8) (n := n) (by decide)
 have h9 := nm_of (k := 9) (n := n) (by decide)
 have h10 := nm_of (k := 10) (n := n) (by decide)
 have hF : ∀ k, k < 12 → opK n = k → formV n = tupV [frmV (frmK k n), bb true] := fun k hk e => by unfold formV; rw [e, if_neg (by omega)]; have : decide (k ≠ 12) = true := decide_eq_true (by omega); rw [this]
 refine pr (by kernel_rfl) Tryz.func83 rfl rfl rfl ?_
 refine W0 ?_
 by_cases k0 : opK n = 0
 ·rw [decide_eq_true k0] at h0
  rw [hF 0 (by decide) k0]
  refine ag h0 ?_
  refine W0 ?_
  exact done_tup [frmV (frmK 0 n), bb true] [] rfl ⟨frmV_le .same .same .same .same .same .same, .same, trivial⟩
 rw [decide_eq_false k0] at h0
 refine af h0 ?_
 refine W0 ?_
 by_cases k1 : opK n = 1
 ·rw [decide_eq_true k1] at h1
  rw [hF 1 (by decide) k1]
  refine ag h1 ?_
  refine W0 ?_
  exact done_tup [frmV (frmK 1 n), bb true] [] rfl ⟨frmV_le .same .same .same .same .same .same, .same, trivial⟩
 rw [decide_eq_false k1] at h1
 refine af h1 ?_
 refine W0 ?_
 by_cases k2 : opK n = 2
 ·rw [decide_eq_true k2] at h2
  rw [hF 2 (by decide) k2]
  refine ag h2 ?_
  refine W0 ?_
  exact done_tup [frmV (frmK 2 n), bb true] [] rfl ⟨frmV_le .same .same .same .same .same .same, .same, trivial⟩
 rw [decide_eq_false k2] at h2
 refine af h2 ?_
 refine W0 ?_
 by_cases k3 : opK n = 3
 ·rw [decide_eq_true k3] at h3
  rw [hF 3 (by decide) k3]
  refine ag h3 ?_
  refine W0 ?_
  exact done_tup [frmV (frmK 3 n), bb true] [] rfl ⟨frmV_le .same .same .same .same .same .same, .same, trivial⟩
 rw [decide_eq_false k3] at h3
 refine af h3 ?_
 refine W0 ?_
 by_cases k4 : opK n = 4
 ·rw [decide_eq_true k4] at h4
  rw [hF 4 (by decide) k4]
  refine ag h4 ?_
  refine W0 ?_
  exact done_tup [frmV (frmK 4 n), bb true] [] rfl ⟨frmV_le .same .same .same .same .same .same, .same, trivial⟩
 rw [decide_eq_false k4] at h4
 refine af h4 ?_
 refine W0 ?_
 by_cases k5 : opK n = 5
 ·rw [decide_eq_true k5] at h5
  rw [hF 5 (by decide) k5]
  refine ag h5 ?_
  refine W0 ?_
  exact done_tup [frmV (frmK 5 n), bb true] [] rfl ⟨frmV_le .same .same .same .same .same .same, .same, trivial⟩
 rw [decide_eq_false k5] at h5
 refine af h5 ?_
 refine W0 ?_
 by_cases k6 : opK n = 6
 ·rw [decide_eq_true k6] at h6
  rw [hF 6 (by decide) k6]
  refine ag h6 ?_
  refine W0 ?_
  exact done_tup [frmV (frmK 6 n), bb true] [] rfl ⟨frmV_le .same .same .same .same .same .same, .same, trivial⟩
 rw [decide_eq_false k6] at h6
 refine af h6 ?_
 refine W0 ?_
 by_cases k7 : opK n = 7
 ·rw [decide_eq_true k7] at h7
  rw [hF 7 (by decide) k7]
  refine ag h7 ?_
  refine W0 ?_
  exact done_tup [frmV (frmK 7 n), bb true] [] rfl ⟨frmV_le .same .same .same .same .same .same, .same, trivial⟩
 rw [decide_eq_false k7] at h7
 refine af h7 ?_
 refine W0 ?_
 by_cases k8 : opK n = 8
 ·rw [decide_eq_true k8] at h8
  rw [hF 8 (by decide) k8]
  refine ag h8 ?_
  refine W0 ?_
  refine ag h8 ?_
  refine W0 ?_
  exact done_tup [frmV (frmK 8 n), bb true] [] rfl ⟨frmV_le .same .same .same .same .same .same, .same, trivial⟩
 rw [decide_eq_false k8] at h8
 refine af h8 ?_
 refine W0 ?_
 by_cases k9 : opK n = 9
 ·rw [decide_eq_true k9] at h9
  rw [hF 9 (by decide) k9]
  refine ag h9 ?_
  refine W0 ?_
  refine ag h9 ?_
  refine W0 ?_
  exact done_tup [frmV (frmK 9 n), bb true] [] rfl ⟨frmV_le .same .same .same .same .same .same, .same, trivial⟩
 rw [decide_eq_false k9] at h9
 refine af h9 ?_
 refine W0 ?_
 by_cases k10 : opK n = 10
 ·rw [decide_eq_true k10] at h10
  rw [hF 10 (by decide) k10]
  refine ag h10 ?_
  refine W0 ?_
  exact done_tup [frmV (frmK 10 n), bb true] [] rfl ⟨frmV_le .same .same .same .same .same .same, .same, trivial⟩
 rw [decide_eq_false k10] at h10
 refine af h10 ?_
 refine W0 ?_
 have hk : opK n = if codeOf n ≠ 0 then 11 else 12 := opK_no fun i hi e => by
  have := dir_at i hi
  rw [e] at this
  omega
 have hf := f79 n
 rcases code_cases n with hc | ⟨hc1, hc2, _⟩
 ·rw [if_neg (by rw [hc]; decide)] at hk
  have e : findV n = tupV [opZ, i64 7] := by unfold findV; rw [hc, if_pos rfl, if_pos rfl]
  rw [e] at hf
  refine c0f hf ⟨.same, trivial⟩ rfl ?_
  refine W0 ?_
  refine ⟨fun _ => ?_, fun h => absurd (nm h) (by decide)⟩
  refine W0 ?_
  have e' : formV n = tupV [frmV ⟨false, false, false, 0, 0, 0⟩, bb false] := by unfold formV; rw [hk]; rfl
  rw [e']
  exact done_tup [frmV ⟨false, false, false, 0, 0, 0⟩, bb false] [] rfl ⟨frmV_le .same .same .same .same .same .same, .same, trivial⟩
 ·have hc0 : codeOf n ≠ 0 := by omega
  rw [if_pos hc0] at hk
  have e : findV n = tupV [opV (codeOf n), i64 0] := by unfold findV; rw [if_neg hc0, if_neg hc0]
  rw [e] at hf
  refine c0f hf ⟨.same, trivial⟩ rfl ?_
  refine W0 ?_
  refine ⟨fun h => absurd rfl (nm h), fun _ => ?_⟩
  refine W0 ?_
  rw [hF 11 (by decide) hk]
  refine tr (fun hk0 => ?_) fun hk0 => ?_
  ·refine W0 ?_
   have e' : frmK 11 n = ⟨true, false, false, 1, 0, 0⟩ := by show (if (ent (codeOf n)).k = 0 then _ else _) = _; rw [if_pos (by omega)]
   rw [e']
   exact done_tup [frmV ⟨true, false, false, 1, 0, 0⟩, bb true] [] rfl ⟨frmV_le .same .same .same .same .same .same, .same, trivial⟩
  ·refine W0 ?_
   have e' : frmK 11 n = ⟨false, true, true, 1, -65535, 65535⟩ := by show (if (ent (codeOf n)).k = 0 then _ else _) = _; rw [if_neg (by omega)]
   rw [e']
   exact done_tup [frmV ⟨false, true, true, 1, -65535, 65535⟩, bb true] [] rfl ⟨frmV_le .same .same .same .same .same .same, .same, trivial⟩
end Go.Proofs.YtkeecnoafjhhdaaGreatDoor
namespace Go.Proofs.YtkeecnoafjhhdaaGreatDoor
open Go Go.AM
attribute [local irreducible] AWP CallK PureCall SubS HeapCallK
def ucell (b : Bool) (_ : Nat) : PV := .bool b
def usedL (u : List Nat) : List Bool := (List.range 36864).map fun a => u.contains a
theorem used_g (u : List Nat) {a : Nat} (h : a < 36864) : (usedL u).getD a false = u.contains a := by
 unfold usedL
 rw [List.getD_eq_getElem?_getD, List.getElem?_map, List.getElem?_range h]; rfl
def rst (s : St) (g : Nat) : AO := ⟨124, 0, 7, 1, fun _ j => match j with
 | 0 => i64 s.bank
 | 1 => i64 s.off
 | 2 => i64 s.er
 | 3 => i64 s.eb
 | 4 => bb s.mark
 | 5 => .row 201 g 3 0 s.syms.length
 | _ => .row 202 0 1 0 36864⟩
def usO (u : List Nat) : AO := ⟨4, 0, 1, 36864, fun i j => .pv (ucell ((usedL u).getD i false) j)⟩
attribute [local irreducible] usedL
def refH (s : St) (g : Nat) : List (Nat × AO) := [(200, rst s g), (201, rowA 65 3 Sym.p sz0 g s.syms), (202, usO s.used)]
abbrev kpR : List Nat := [200, 201, 202]
theorem rstLe {H : Heap} {B : List Nat} {U : List (Nat × Nat)} {o : AO} {s : St} {g : Nat} (e1 : o.E = 124) (e2 : o.gen = 0) (e3 : o.sz = 7) (e4 : o.n = 1) (h0 : VLe H B U (o.f 0 0) (i64 s.bank)) (h1 : VLe H B U (o.f 0 1) (i64 s.off)) (h2 : VLe H B U (o.f 0 2) (i64 s.er)) (h3 : VLe H B U (o.f 0 3) (i64 s.eb)) (h4 : VLe H B U (o.f 0 4) (bb s.mark))
  (h5 : VLe H B U (o.f 0 5) (.row 201 g 3 0 s.syms.length)) (h6 : VLe H B U (o.f 0 6) (.row 202 0 1 0 36864)) : OLe H B U o (rst s g) :=
 ⟨e1.symm, e2.symm, e3.symm, Nat.le_of_eq e4.symm, fun i j hi hj => by
   have hi0 : i = 0 := Nat.lt_one_iff.mp hi
   subst hi0
   rw [e3] at hj
   match j, hj with
   | 0, _ => exact h0
   | 1, _ => exact h1
   | 2, _ => exact h2
   | 3, _ => exact h3
   | 4, _ => exact h4
   | 5, _ => exact h5
   | 6, _ => exact h6⟩
theorem us_keep {H : Heap} {B : List Nat} {U : List (Nat × Nat)} {u : List Nat} : OLe H B U (usO u) (usO u) := ⟨rfl, rfl, rfl, Nat.le_refl _, fun _ _ _ _ => .same⟩
theorem rst_keep {H : Heap} {B : List Nat} {U : List (Nat × Nat)} {s : St} {g : Nat} (h1 : lookL U 201 = some 201) (h2 : lookL U 202 = some 202) : OLe H B U (rst s g) (rst s g) :=
 rstLe rfl rfl rfl rfl .same .same .same .same .same (.row _ _ _ _ _ _ _ _ _ h1 rfl rfl rfl) (.row _ _ _ _ _ _ _ _ _ h2 rfl rfl rfl)
theorem allR {st : ASt} {B : List Nat} {U : List (Nat × Nat)} {s : St} {g : Nat} {o0 o1 o2 : AO} (hU : lookL U 200 = some 200 ∧ lookL U 201 = some 201 ∧ lookL U 202 = some 202) (hB : memN 200 B = false ∧ memN 201 B = false ∧ memN 202 B = false)
  (g0 : st.heap 200 = some o0) (g1 : st.heap 201 = some o1) (g2 : st.heap 202 = some o2) (hs0 : o0.sz = 7) (hs1 : o1.sz = 3) (hs2 : o2.sz = 1) (h0 : OLe st.heap B U o0 (rst s g)) (h1 : OLe st.heap B U o1 (rowA 65 3 Sym.p sz0 g s.syms)) (h2 : OLe st.heap B U o2 (usO s.used)) : AllH st B U (refH s g) :=
 ⟨.inl ⟨_, _, hU.1, g0, by rw [hB.1, hs0]; rfl, h0⟩, .inl ⟨_, _, hU.2.1, g1, by rw [hB.2.1, hs1]; rfl, h1⟩, .inl ⟨_, _, hU.2.2, g2, by rw [hB.2.2, hs2]; rfl, h2⟩, trivial⟩
theorem allRz {st : ASt} {B : List Nat} {U : List (Nat × Nat)} {s : St} {g : Nat} {o0 o1 o2 : AO} (g0 : st.heap 200 = some o0) (g1 : st.heap 201 = some o1) (g2 : st.heap 202 = some o2) (hs0 : o0.sz = 7) (hs1 : o1.sz = 3) (hs2 : o2.sz = 1) (h0 : OLe st.heap B U o0 (rst s g)) (h1 : OLe st.heap B U o1 (rowA 65 3 Sym.p sz0 g s.syms)) (h2 : OLe st.heap B U o2 (usO s.used)) (hU : lookL U 200 = some 200 ∧ lookL U 201 = some 201 ∧ lookL U 202 = some 202 := by exact ⟨rfl, rfl, rfl⟩) (hB : memN 200 B = false ∧ memN 201 B = false ∧ memN 202 B = false := by exact ⟨rfl, rfl, rfl⟩) : AllH st B U (refH s g) :=
 allR hU hB g0 g1 g2 hs0 hs1 hs2 h0 h1 h2
theorem f46 (s : St) (g : Nat) (hw : Wf s) : HeapCallK Tryz.prog 46 [.ptr 200 0 7 0 0] (refH s g) (fun r Hout => r = i64 (s.adr : Nat) ∧ Hout = refH s g) (fun _ _ => False) := by
 have hb := hw.bank
 have ho := hw.off
 refine HeapCallK.run tab_ok mixed (by kernel_rfl) Tryz.func46 rfl rfl rfl ?_
 refine W0 ?_
 refine W0 ?_
 refine ⟨⟨by unfold inI64; omega⟩, ?_⟩
 refine W0 ?_
 refine W0 ?_
 refine ⟨⟨by unfold inI64; omega⟩, ?_⟩
 refine W0 ?_
 refine ⟨rfl, ?_⟩
 refine W0 ?_
 exact ⟨_, _, ⟨rfl, rfl⟩, SubS.mkK [] rfl ⟨⟨_, rfl, VLe.int (by show 1024 * (s.bank : Int) + s.off = ((1024 * s.bank + s.off : Nat) : Int); omega)⟩, trivial⟩ (allRz rfl rfl rfl rfl rfl rfl (rst_keep rfl rfl) .keepA us_keep)⟩
end Go.Proofs.YtkeecnoafjhhdaaGreatDoor
namespace Go.Proofs.YtkeecnoafjhhdaaGreatDoor
open Go Go.AM
attribute [local irreducible] AWP CallK PureCall SubS HeapCallK
def aftN (u : List Nat) (b : Nat) : Nat → Nat
 | 0 => 0
 | n + 1 => if u.contains (1024 * b + n) then n + 1 else aftN u b n
theorem aftN_no {u : List Nat} {b n : Nat} (h : u.contains (1024 * b + n) = false) : aftN u b (n + 1) = aftN u b n := by
 show (if u.contains (1024 * b + n) then n + 1 else aftN u b n) = aftN u b n
 rw [h, if_neg (by decide)]
theorem aftN_ge {u : List Nat} {b n k : Nat} (hk : k < n) (h : 1024 * b + k ∈ u) : k + 1 ≤ aftN u b n := by
 induction n with
 | zero => omega
 | succ n ih =>
   unfold aftN
   split
   ·omega
   ·rename_i hc
    have : k ≠ n := fun e => hc (by rw [← e]; simpa using h)
    exact ih (by omega)
theorem aftN_at {u : List Nat} {b n : Nat} : aftN u b n = 0 ∨ ∃ k, k < n ∧ 1024 * b + k ∈ u ∧ aftN u b n = k + 1 := by
 induction n with
 | zero => exact .inl rfl
 | succ n ih =>
   unfold aftN
   split
   ·rename_i hc
    exact .inr ⟨n, by omega, by simpa using hc, rfl⟩
   ·rcases ih with h | ⟨k, h1, h2, h3⟩
    ·exact .inl h
    ·exact .inr ⟨k, by omega, h2, h3⟩
theorem fold_ge : ∀ {l : List Nat} {m x : Nat}, x ∈ l ∨ x ≤ m → x ≤ l.foldl max m
 | [], _, _, h => h.resolve_left (List.not_mem_nil)
 | a :: l, m, x, h => fold_ge (l := l) (m := max m a) (by
    rcases h with h | h
    ·rcases List.mem_cons.mp h with rfl | h
     ·exact .inr (Nat.le_max_right ..)
     ·exact .inl h
    ·exact .inr (Nat.le_trans h (Nat.le_max_left ..)))
theorem fold_at : ∀ {l : List Nat} {m : Nat}, l.foldl max m = m ∨ l.foldl max m ∈ l
 | [], _ => .inl rfl
 | a :: l, m => by
   rw [List.foldl_cons]
   rcases fold_at (l := l) (m := max m a) with h | h
   ·rw [h]
    by_cases hm : a ≤ m
    ·left; omega
    ·right; rw [show max m a = a by omega]; exact List.mem_cons_self
   ·exact .inr (List.mem_cons_of_mem _ h)
theorem aft_ge {u : List Nat} {b k : Nat} (hk : k < 1024) (h : 1024 * b + k ∈ u) : k + 1 ≤ aftF u b :=
 fold_ge (.inl (List.mem_filterMap.mpr ⟨_, h, by rw [if_pos (by omega)]; congr 1; omega⟩))
theorem aft_at {u : List Nat} {b : Nat} : aftF u b = 0 ∨ ∃ k, k < 1024 ∧ 1024 * b + k ∈ u ∧ aftF u b = k + 1 := by
 rcases fold_at (l := u.filterMap fun a => if a / 1024 = b then some (a % 1024 + 1) else none) (m := 0) with h | h
 ·exact .inl h
 ·right
  obtain ⟨a, ha, he⟩ := List.mem_filterMap.mp h
  by_cases hb : a / 1024 = b
  ·rw [if_pos hb] at he
   refine ⟨a % 1024, Nat.mod_lt _ (by decide), ?_, (Option.some.inj he).symm⟩
   rw [show 1024 * b + a % 1024 = a by omega]; exact ha
  ·rw [if_neg hb] at he; cases he
theorem aftN_F (u : List Nat) (b : Nat) : aftN u b 1024 = aftF u b := by
 apply Nat.le_antisymm
 ·rcases aftN_at (u := u) (b := b) (n := 1024) with h | ⟨k, h1, h2, h3⟩
  ·omega
  ·rw [h3]; exact aft_ge h1 h2
 ·rcases aft_at (u := u) (b := b) with h | ⟨k, h1, h2, h3⟩
  ·omega
  ·rw [h3]; exact aftN_ge h1 h2
set_option maxHeartbeats 1000000 in
theorem f85 (s : St) (g b : Nat) (hb : b ≤ 35) : HeapCallK Tryz.prog 85 [.ptr 200 0 7 0 0, i64 b] (refH s g) (fun r Hout => r = i64 (aftF s.used b : Nat) ∧ Hout = refH s g) (fun _ _ => False) := by
 refine HeapCallK.run tab_ok mixed (by kernel_rfl) Tryz.func85 rfl rfl rfl ?_
 refine W0 ?_
 refine ex_loop tab_ok mixed (fun i : Nat => i ≤ 1024) (fun i => mkStK 24 [(0, .ptr 200 0 7 0 0), (1, i64 b), (5, i64 (aftN s.used b i : Nat)), (6, i64 i)] (refH s g) kpR) (fun i => 1024 - i) 0 (Nat.zero_le _) (SubS.mkK [] rfl ⟨⟨_, rfl, .pq rfl⟩, ⟨_, rfl, .same⟩, ⟨_, rfl, .same⟩, ⟨_, rfl, .same⟩, trivial⟩ (allRz rfl rfl rfl rfl rfl rfl (rst_keep rfl rfl) .keepA us_keep)) ?_
 rintro i hi
 refine W0 ?_
 refine tr (fun hc => ?_) fun hc => ?_
 ·have hlt : i < 1024 := by have : (i : Int) < 1024 := hc; omega
  refine W0 ?_
  refine W0 ?_
  refine ⟨⟨by unfold inI64; omega⟩, ?_⟩
  refine W0 ?_
  refine ⟨⟨by unfold inI64; omega⟩, ?_⟩
  refine W0 ?_
  refine ⟨⟨by omega, by show 1024 * (b : Int) + i < 36864; omega, rfl⟩, ?_⟩
  refine W0 ?_
  refine ⟨⟨rfl, rfl, by show 0 + (1024 * (b : Int) + i).toNat < 36864; omega, nle rfl⟩, ?_⟩
  refine W0 ?_
  have eg : (usedL s.used).getD (0 + (1024 * (b : Int) + i).toNat) false = s.used.contains (1024 * b + i) := by
   rw [show 0 + (1024 * (b : Int) + i).toNat = 1024 * b + i by omega]
   exact used_g _ (by omega)
  refine ⟨fun h => ?_, fun h => ?_⟩
  ·have h := eg.symm.trans h
   have e : aftN s.used b (i + 1) = i + 1 := by unfold aftN; rw [if_pos h]
   refine W0 ?_
   refine ⟨⟨by unfold inI64; omega⟩, ?_⟩
   refine W0 ?_
   refine ⟨⟨by unfold inI64; omega⟩, ?_⟩
   refine W0 ?_
   exact ⟨i + 1, hlt, SubS.mkK [] rfl ⟨⟨_, rfl, .pq rfl⟩, ⟨_, rfl, .same⟩, ⟨_, rfl, VLe.int (by rw [e]; rfl)⟩, ⟨_, rfl, .same⟩, trivial⟩ (allRz rfl rfl rfl rfl rfl rfl (rst_keep rfl rfl) .keepA us_keep), by omega⟩
  ·have h := eg.symm.trans h
   have e : aftN s.used b (i + 1) = aftN s.used b i := aftN_no h
   refine W0 ?_
   refine ⟨⟨by unfold inI64; omega⟩, ?_⟩
   refine W0 ?_
   exact ⟨i + 1, hlt, SubS.mkK [] rfl ⟨⟨_, rfl, .pq rfl⟩, ⟨_, rfl, .same⟩, ⟨_, rfl, VLe.int (by rw [e])⟩, ⟨_, rfl, .same⟩, trivial⟩ (allRz rfl rfl rfl rfl rfl rfl (rst_keep rfl rfl) .keepA us_keep), by omega⟩
 ·refine W0 ?_
  have hge : (1024 : Int) ≤ i := hc
  have e : i = 1024 := by omega
  subst e
  rw [aftN_F]
  exact ⟨_, _, ⟨rfl, rfl⟩, SubS.mkK [] rfl ⟨⟨_, rfl, .same⟩, trivial⟩ (allRz rfl rfl rfl rfl rfl rfl (rst_keep rfl rfl) (.keepA) (us_keep))⟩
set_option maxHeartbeats 2000000 in
theorem f45 (s : St) (g : Nat) (n : List UInt8) (ho : opK n ≠ 12) : HeapCallK Tryz.prog 45 [.ptr 200 0 7 0 0, st n] (refH s g) (fun r Hout => r = i64 (cntK (opK n) n s.mark : Nat) ∧ Hout = refH s g) (fun _ _ => False) := by
 have h0 := nm_of (k := 0) (n := n) (by decide)
 have h1 := nm_of (k := 1) (n := n) (by decide)
 have h2 := nm_of (k := 2) (n := n) (by decide)
 have h3 := nm_of (k := 3) (n := n) (by decide)
 have h4 := nm_of (k := 4) (n := n) (by decide)
 have h5 := nm_of (k := 5) (n := n) (by decide)
 have h6 := nm_of (k := 6) (n := n) (by decide)
 have h7 := nm_of (k := 7) (n := n) (by decide)
 have h8 := nm_of (k := 8) (n := n) (by decide)
 have h9 := nm_of (k := 9) (n := n) (by decide)
 have h10 := nm_of (k := 10) (n := n) (by decide)
 refine HeapCallK.run tab_ok mixed (by kernel_rfl) Tryz.func45 rfl rfl rfl ?_
 refine W0 ?_
 by_cases k0 : opK n = 0
 ·rw [decide_eq_true k0] at h0
  have hk : cntK (opK n) n s.mark = 0 := by rw [k0]; rfl
  refine ag h0 ?_
  refine W0 ?_
  refine ag h0 ?_
  refine W0 ?_
  rw [hk]
  exact ⟨_, _, ⟨rfl, rfl⟩, SubS.mkK [] rfl ⟨⟨_, rfl, .same⟩, trivial⟩ (allRz rfl rfl rfl rfl rfl rfl (rst_keep rfl rfl) (.keepA) (us_keep))⟩
 rw [decide_eq_false k0] at h0
 refine af h0 ?_
 refine W0 ?_
 by_cases k1 : opK n = 1
 ·rw [decide_eq_true k1] at h1
  have hk : cntK (opK n) n s.mark = 0 := by rw [k1]; rfl
  refine ag h1 ?_
  refine W0 ?_
  refine ag h1 ?_
  refine W0 ?_
  rw [hk]
  exact ⟨_, _, ⟨rfl, rfl⟩, SubS.mkK [] rfl ⟨⟨_, rfl, .same⟩, trivial⟩ (allRz rfl rfl rfl rfl rfl rfl (rst_keep rfl rfl) (.keepA) (us_keep))⟩
 rw [decide_eq_false k1] at h1
 refine af h1 ?_
 refine W0 ?_
 by_cases k2 : opK n = 2
 ·rw [decide_eq_true k2] at h2
  have hk : cntK (opK n) n s.mark = 0 := by rw [k2]; rfl
  refine ag h2 ?_
  refine W0 ?_
  refine ag h2 ?_
  refine W0 ?_
  rw [hk]
  exact ⟨_, _, ⟨rfl, rfl⟩, SubS.mkK [] rfl ⟨⟨_, rfl, .same⟩, trivial⟩ (allRz rfl rfl rfl rfl rfl rfl (rst_keep rfl rfl) (.keepA) (us_keep))⟩
 rw [decide_eq_false k2] at h2
 refine af h2 ?_
 refine W0 ?_
 by_cases k3 : opK n = 3
 ·rw [decide_eq_true k3] at h3
  have hk : cntK (opK n) n s.mark = 0 := by rw [k3]; rfl
  refine ag h3 ?_
  refine W0 ?_
  refine ag h3 ?_
  refine W0 ?_
  rw [hk]
  exact ⟨_, _, ⟨rfl, rfl⟩, SubS.mkK [] rfl ⟨⟨_, rfl, .same⟩, trivial⟩ (allRz rfl rfl rfl rfl rfl rfl (rst_keep rfl rfl) (.keepA) (us_keep))⟩
 rw [decide_eq_false k3] at h3
 refine af h3 ?_
 refine W0 ?_
 by_cases k4 : opK n = 4
 ·rw [decide_eq_true k4] at h4
  have hk : cntK (opK n) n s.mark = 0 := by rw [k4]; rfl
  refine ag h4 ?_
  refine W0 ?_
  refine ag h4 ?_
  refine W0 ?_
  rw [hk]
  exact ⟨_, _, ⟨rfl, rfl⟩, SubS.mkK [] rfl ⟨⟨_, rfl, .same⟩, trivial⟩ (allRz rfl rfl rfl rfl rfl rfl (rst_keep rfl rfl) (.keepA) (us_keep))⟩
 rw [decide_eq_false k4] at h4
 refine af h4 ?_
 refine W0 ?_
 by_cases k5 : opK n = 5
 ·rw [decide_eq_true k5] at h5
  have hk : cntK (opK n) n s.mark = 0 := by rw [k5]; rfl
  refine ag h5 ?_
  refine W0 ?_
  rw [hk]
  exact ⟨_, _, ⟨rfl, rfl⟩, SubS.mkK [] rfl ⟨⟨_, rfl, .same⟩, trivial⟩ (allRz rfl rfl rfl rfl rfl rfl (rst_keep rfl rfl) (.keepA) (us_keep))⟩
 rw [decide_eq_false k5] at h5
 refine af h5 ?_
 refine W0 ?_
 by_cases k6 : opK n = 6
 ·rw [decide_eq_true k6] at h6
  have hk : cntK (opK n) n s.mark = 1 := by rw [k6]; rfl
  refine ag h6 ?_
  refine W0 ?_
  refine ag h6 ?_
  refine W0 ?_
  rw [hk]
  exact ⟨_, _, ⟨rfl, rfl⟩, SubS.mkK [] rfl ⟨⟨_, rfl, .same⟩, trivial⟩ (allRz rfl rfl rfl rfl rfl rfl (rst_keep rfl rfl) (.keepA) (us_keep))⟩
 rw [decide_eq_false k6] at h6
 refine af h6 ?_
 refine W0 ?_
 by_cases k7 : opK n = 7
 ·rw [decide_eq_true k7] at h7
  have hk : cntK (opK n) n s.mark = 1 := by rw [k7]; rfl
  refine ag h7 ?_
  refine W0 ?_
  refine ag h7 ?_
  refine W0 ?_
  rw [hk]
  exact ⟨_, _, ⟨rfl, rfl⟩, SubS.mkK [] rfl ⟨⟨_, rfl, .same⟩, trivial⟩ (allRz rfl rfl rfl rfl rfl rfl (rst_keep rfl rfl) (.keepA) (us_keep))⟩
 rw [decide_eq_false k7] at h7
 refine af h7 ?_
 refine W0 ?_
 by_cases k8 : opK n = 8
 ·rw [decide_eq_true k8] at h8
  have hk : cntK (opK n) n s.mark = 1 := by rw [k8]; rfl
  refine ag h8 ?_
  refine W0 ?_
  refine ag h8 ?_
  refine W0 ?_
  rw [hk]
  exact ⟨_, _, ⟨rfl, rfl⟩, SubS.mkK [] rfl ⟨⟨_, rfl, .same⟩, trivial⟩ (allRz rfl rfl rfl rfl rfl rfl (rst_keep rfl rfl) (.keepA) (us_keep))⟩
 rw [decide_eq_false k8] at h8
 refine af h8 ?_
 refine W0 ?_
 by_cases k9 : opK n = 9
 ·rw [decide_eq_true k9] at h9
  have hk : cntK (opK n) n s.mark = 1 := by rw [k9]; rfl
  refine ag h9 ?_
  refine W0 ?_
  refine ag h9 ?_
  refine W0 ?_
  rw [hk]
  exact ⟨_, _, ⟨rfl, rfl⟩, SubS.mkK [] rfl ⟨⟨_, rfl, .same⟩, trivial⟩ (allRz rfl rfl rfl rfl rfl rfl (rst_keep rfl rfl) (.keepA) (us_keep))⟩
 rw [decide_eq_false k9] at h9
 refine af h9 ?_
 refine W0 ?_
 by_cases k10 : opK n = 10
 ·rw [decide_eq_true k10] at h10
  have hk : cntK (opK n) n s.mark = 1 := by rw [k10]; rfl
  refine ag h10 ?_
  refine W0 ?_
  rw [hk]
  exact ⟨_, _, ⟨rfl, rfl⟩, SubS.mkK [] rfl ⟨⟨_, rfl, .same⟩, trivial⟩ (allRz rfl rfl rfl rfl rfl rfl (rst_keep rfl rfl) (.keepA) (us_keep))⟩
 rw [decide_eq_false k10] at h10
 refine af h10 ?_
 refine W0 ?_
 have hk : opK n = if codeOf n ≠ 0 then 11 else 12 := opK_no fun i hi e => by
  have := dir_at i hi
  rw [e] at this
  omega
 have hf := f79 n
 have hc0 : codeOf n ≠ 0 := fun e => ho (by rw [hk, if_neg (by rw [e]; decide)])
 rw [if_pos hc0] at hk
 have e : findV n = tupV [opV (codeOf n), i64 0] := by unfold findV; rw [if_neg hc0, if_neg hc0]
 rw [e] at hf
 refine c0f hf ⟨.same, trivial⟩ rfl ?_
 refine W0 ?_
 refine W0 ?_
 refine tr (fun hc => ?_) fun hc => ?_
 ·have hc' : 19 < codeOf n := hc
  refine W0 ?_
  refine W0 ?_
  refine tr (fun hm => ?_) fun hm => ?_
  ·have hm' : s.mark = false := by simpa using hm
   have hk2 : cntK (opK n) n s.mark = 2 := by unfold cntK; rw [hk, if_neg (by decide), if_pos ⟨rfl, hc', hm'⟩]
   rw [hk2]
   refine W0 ?_
   exact ⟨_, _, ⟨rfl, rfl⟩, SubS.mkK [] rfl ⟨⟨_, rfl, .same⟩, trivial⟩ (allRz rfl rfl rfl rfl rfl rfl (rst_keep rfl rfl) (.keepA) (us_keep))⟩
  ·have hk2 : cntK (opK n) n s.mark = 1 := by unfold cntK; rw [hk, if_neg (by decide), if_neg (fun h => by rw [h.2.2] at hm; cases hm)]
   rw [hk2]
   refine W0 ?_
   exact ⟨_, _, ⟨rfl, rfl⟩, SubS.mkK [] rfl ⟨⟨_, rfl, .same⟩, trivial⟩ (allRz rfl rfl rfl rfl rfl rfl (rst_keep rfl rfl) (.keepA) (us_keep))⟩
 ·have hk2 : cntK (opK n) n s.mark = 1 := by unfold cntK; rw [hk, if_neg (by decide), if_neg (fun h => hc h.2.1)]
  rw [hk2]
  refine W0 ?_
  exact ⟨_, _, ⟨rfl, rfl⟩, SubS.mkK [] rfl ⟨⟨_, rfl, .same⟩, trivial⟩ (allRz rfl rfl rfl rfl rfl rfl (rst_keep rfl rfl) (.keepA) (us_keep))⟩
end Go.Proofs.YtkeecnoafjhhdaaGreatDoor
namespace Go.Proofs.YtkeecnoafjhhdaaGreatDoor
open Go Go.AM
def tb80 : Tr := .alt 6 (.alt 7 (.alt 8 (.alt 9 (.alt 11 (.alt 12 .done)))))
attribute [local irreducible] AWP CallK PureCall SubS HeapCallK
def addS (s : St) (x : Sym) : St := { s with syms := s.syms ++ [x] }
set_option maxHeartbeats 2000000 in
theorem f87 (s : St) (g : Nat) (x : Sym) (hl : s.syms.length < 2 ^ 40) : HeapCallK Tryz.prog 87 [.ptr 200 0 7 0 0, x.av] (refH s g) (fun r Hout => r = bb (findS s.syms x.nm).isNone ∧ ∃ g', Hout = refH (if (findS s.syms x.nm).isNone then addS s x else s) g') (fun _ _ => False) := by
 have hf := f28 s.syms x.nm (by omega)
 refine HeapCallK.body tab_ok (by kernel_rfl) Tryz.func87 rfl rfl rfl ?_
 refine pc ?_
 refine W0 ?_
 refine awp_cut (fun _ : Unit => mkStK 29 [(0, .ptr 200 0 7 0 0), (3, .ptr 3 0 3 0 0), (6, i64 (if (findS s.syms x.nm).isSome then 0 else 7))] ((3, symB x) :: refH s g) kpR) (fun _ => True) (fun K hK => ?_) (fun _ _ => ?_)
 ·refine awp_tree tab_ok mixed [0, 1, 2, 4, 7, 8, 9, 12] [3, 5] (.alt 0 (.alt 1 (.alt 2 (.alt 4 (.br 3 (.br 5 (.br 6 (.alt 7 (.alt 8 (.alt 9 (.alt 10 (.alt 11 (.alt 12 .done)))))) (.alt 10 tb80)) (.alt 10 (.alt 5 tb80))) (.br 5 (.alt 10 (.alt 3 tb80)) (.alt 10 (.br 3 (.alt 5 tb80) (.skip (.alt 5 .dead)))))))))) (by kernel_rfl) (fun _ _ _ _ _ _ _ h => h) ?_
  conv => whnf
  repeat' (first | (refine W1 ?_) | exact trivial | (refine And2.mk ?_ ?_ <;> (conv => whnf)))
  all_goals refine CallK.flat [201] hf ⟨.frzA rfl rfl rfl, .same, trivial⟩ rfl ?_
  all_goals ((conv => whnf); repeat' (first | (refine W1 ?_) | exact trivial | (refine And2.mk ?_ ?_ <;> (conv => whnf))))
  all_goals exact hK _ () trivial (SubS.mkK [] rfl ⟨⟨_, rfl, .pq rfl⟩, ⟨_, rfl, .pq rfl⟩, ⟨_, rfl, .same⟩, trivial⟩ ⟨.inl ⟨_, _, rfl, rfl, rfl, symB_le rfl rfl rfl rfl .same .same .same⟩, allRz rfl rfl rfl rfl rfl rfl (rst_keep rfl rfl) .keepA us_keep⟩)
 cases hF : findS s.syms x.nm with
 | some y =>
   refine pc ?_
   refine W0 ?_
   refine an (by simp) ?_
   refine W0 ?_
   exact ⟨_, _, ⟨rfl, _, rfl⟩, SubS.mkK [] rfl ⟨⟨_, rfl, .same⟩, trivial⟩ (allRz rfl rfl rfl rfl rfl rfl (rst_keep rfl rfl) (.keepA) (us_keep))⟩
 | none =>
   refine pc ?_
   refine W0 ?_
   refine na (by simp) ?_
   refine W0 ?_
   refine awp_seq ?_
   refine awp_tree tab_ok mixed [0, 1, 2, 3, 8, 9] [4, 5] (.alt 0 (.alt 1 (.alt 2 (.alt 3 (.br 4 (.alt 5 (.alt 6 (.alt 7 (.alt 8 (.alt 9 (.alt 10 .done)))))) (.alt 5 (.alt 6 (.alt 4 (.alt 7 (.alt 8 (.alt 9 (.alt 10 .done)))))))))))) (by kernel_rfl) (fun _ _ _ _ _ _ _ h => h) ?_
   conv => whnf
   repeat' (first | (refine W1 ?_) | exact trivial | (refine And2.mk ?_ ?_ <;> (conv => whnf)))
   all_goals refine ⟨⟨⟨rfl, rfl, rfl, nle rfl⟩, rfl, rfl, rfl, rfl, rfl, rfl, by show (s.syms.length + 1) * 32 ≤ _; omega⟩, ?_⟩
   all_goals ((conv => whnf); repeat' (first | (refine W1 ?_) | exact trivial | (refine And2.mk ?_ ?_ <;> (conv => whnf))))
   all_goals refine awp_last tab_ok mixed ?_
   all_goals (refine W0 ?_)
   all_goals exact ⟨_, _, ⟨rfl, g + 1, rfl⟩, SubS.mkK [] rfl ⟨⟨_, rfl, .same⟩, trivial⟩ (allRz rfl rfl rfl rfl rfl rfl (s := addS s x) (rstLe rfl rfl rfl rfl .same .same .same .same .same (.row _ _ _ _ _ _ _ _ _ rfl rfl rfl (by show s.syms.length + 1 = (s.syms ++ [x]).length; simp)) (.rq rfl)) (OLe.snocA rfl rfl rfl rfl rfl (fun j hj => match j, hj with | 0, _ => .same | 1, _ => .same | 2, _ => .same)) us_keep)⟩
end Go.Proofs.YtkeecnoafjhhdaaGreatDoor
namespace Go.Proofs.YtkeecnoafjhhdaaGreatDoor
open Go Go.AM
def tb90 : Tr := .alt 7 (.alt 8 (.alt 9 (.alt 10 (.alt 12 (.alt 13 .done)))))
attribute [local irreducible] AWP CallK PureCall SubS HeapCallK
def eqlR (s : St) (x : Line) : Sym × Int :=
 if x.arg.k = 1 then (⟨x.lab, 0, x.arg.v⟩, 0) else match findS s.syms x.arg.nm with
  | none => (sz0, 7)
  | some y => if valS y.sp (y.ad + x.arg.v) = false then (sz0, 3) else (⟨x.lab, y.sp, y.ad + x.arg.v⟩, 0)
def syT (x : Sym × Int) : AV := tupV [x.1.av, i64 x.2]
theorem tup2 {H : Heap} {B : List Nat} {U : List (Nat × Nat)} {f : Nat → AV} {a b : AV} (h0 : VLe H B U (f 0) a) (h1 : VLe H B U (f 1) b) : VLe H B U (.tup 2 f) (tupV [a, b]) := .tup _ _ _ fun i hi => match i, hi with
 | 0, _ => h0
 | 1, _ => h1
set_option maxHeartbeats 2000000 in
theorem f88 (s : St) (g : Nat) (x : Line) (hl : s.syms.length < 2 ^ 40) (hw : Wf s) (hx : -65535 ≤ x.arg.v ∧ x.arg.v ≤ 65535) : HeapCallK Tryz.prog 88 [.ptr 200 0 7 0 0, x.av] (refH s g) (fun r Hout => r = syT (eqlR s x) ∧ Hout = refH s g) (fun _ _ => False) := by
 have hf := f28 s.syms x.arg.nm (by omega)
 refine HeapCallK.body tab_ok (by kernel_rfl) Tryz.func88 rfl rfl rfl ?_
 refine pc ?_
 refine W0 ?_
 refine pc ?_
 refine W0 ?_
 refine tr (fun hk => ?_) fun hk => ?_
 ·refine W0 ?_
  have e : eqlR s x = (⟨x.lab, 0, x.arg.v⟩, 0) := by unfold eqlR; rw [if_pos hk]
  rw [e]
  exact ⟨_, _, ⟨rfl, rfl⟩, SubS.mkK [] rfl ⟨⟨_, rfl, tup2 (symV .same .same .same) .same⟩, trivial⟩ (allRz rfl rfl rfl rfl rfl rfl (rst_keep rfl rfl) (.keepA) (us_keep))⟩
 ·refine W0 ?_
  refine awp_cut (fun _ : Unit => mkStK 51 [(0, .ptr 200 0 7 0 0), (3, .ptr 3 0 5 0 0), (4, .ptr 4 0 3 0 0), (6, .ptr 6 0 3 0 0), (7, i64 (if (findS s.syms x.arg.nm).isSome then 0 else 7))] ((3, lineO x) :: (4, symB sz0) :: (6, symB ((findS s.syms x.arg.nm).getD sz0)) :: refH s g) kpR) (fun _ => True) (fun K hK => ?_) (fun _ _ => ?_)
  ·refine awp_tree tab_ok mixed [0, 1, 2, 4, 5, 8, 9, 10, 13] [3, 6] (.alt 0 (.alt 1 (.alt 2 (.alt 4 (.alt 5 (.br 3 (.br 6 (.br 7 (.alt 8 (.alt 9 (.alt 10 (.alt 11 (.alt 12 (.alt 13 .done)))))) (.alt 11 tb90)) (.alt 11 (.alt 6 tb90))) (.br 6 (.alt 11 (.alt 3 tb90)) (.alt 11 (.br 3 (.alt 6 tb90) (.skip (.alt 6 .dead))))))))))) (by kernel_rfl) (fun _ _ _ _ _ _ _ h => h) ?_
   conv => whnf
   repeat' (first | (refine W1 ?_) | exact trivial | (refine And2.mk ?_ ?_ <;> (conv => whnf)))
   all_goals refine CallK.flat [201] hf ⟨.frzA rfl rfl rfl, .same, trivial⟩ rfl ?_
   all_goals ((conv => whnf); repeat' (first | (refine W1 ?_) | exact trivial | (refine And2.mk ?_ ?_ <;> (conv => whnf))))
   all_goals exact hK _ () trivial (SubS.mkK [] rfl ⟨⟨_, rfl, .pq rfl⟩, ⟨_, rfl, .pq rfl⟩, ⟨_, rfl, .pq rfl⟩, ⟨_, rfl, .pq rfl⟩, ⟨_, rfl, .same⟩, trivial⟩ ⟨.inl ⟨_, _, rfl, rfl, rfl, line_box rfl rfl rfl rfl fun _ => rfl⟩, .inl ⟨_, _, rfl, rfl, rfl, symB_le rfl rfl rfl rfl .same .same .same⟩, .inl ⟨_, _, rfl, rfl, rfl, symB_le rfl rfl rfl rfl .same .same .same⟩, allRz rfl rfl rfl rfl rfl rfl (rst_keep rfl rfl) .keepA us_keep⟩)
  cases hF : findS s.syms x.arg.nm with
  | none =>
    have e : eqlR s x = (sz0, 7) := by unfold eqlR; rw [if_neg hk, hF]
    rw [e]
    refine pc ?_
    refine W0 ?_
    refine an (by simp) ?_
    refine W0 ?_
    exact ⟨_, _, ⟨rfl, rfl⟩, SubS.mkK [] rfl ⟨⟨_, rfl, tup2 (symV .same .same .same) .same⟩, trivial⟩ (allRz rfl rfl rfl rfl rfl rfl (rst_keep rfl rfl) (.keepA) (us_keep))⟩
  | some y =>
    have hy := hw.sy y (find_some hF).1
    refine pc ?_
    refine W0 ?_
    refine na (by simp) ?_
    refine W0 ?_
    refine awp_last tab_ok mixed ?_
    refine W0 ?_
    refine W0 ?_
    refine ⟨⟨by show inI64 (y.ad + x.arg.v); unfold inI64; omega⟩, ?_⟩
    refine W0 ?_
    refine c0f (f133 y.sp (y.ad + x.arg.v)) ⟨.same, .same, trivial⟩ rfl ?_
    refine W0 ?_
    refine tr (fun hv => ?_) fun hv => ?_
    ·have e : eqlR s x = (sz0, 3) := by unfold eqlR; rw [if_neg hk, hF]; exact if_pos (by simpa using hv)
     rw [e]
     refine W0 ?_
     exact ⟨_, _, ⟨rfl, rfl⟩, SubS.mkK [] rfl ⟨⟨_, rfl, tup2 (symV .same .same .same) .same⟩, trivial⟩ (allRz rfl rfl rfl rfl rfl rfl (rst_keep rfl rfl) (.keepA) (us_keep))⟩
    ·have e : eqlR s x = (⟨x.lab, y.sp, y.ad + x.arg.v⟩, 0) := by unfold eqlR; rw [if_neg hk, hF]; exact if_neg (by simpa using hv)
     rw [e]
     refine W0 ?_
     exact ⟨_, _, ⟨rfl, rfl⟩, SubS.mkK [] rfl ⟨⟨_, rfl, tup2 (symV .same .same .same) .same⟩, trivial⟩ (allRz rfl rfl rfl rfl rfl rfl (rst_keep rfl rfl) (.keepA) (us_keep))⟩
end Go.Proofs.YtkeecnoafjhhdaaGreatDoor
namespace Go.Proofs.YtkeecnoafjhhdaaGreatDoor
open Go Go.AM
attribute [local irreducible] AWP CallK PureCall SubS HeapCallK
def outP (R : Rs St) (r : AV) (Hout : List (Nat × AO)) : Prop :=
 match R with
 | .ok s1 => r = i64 0 ∧ ∃ g', Hout = refH s1 g'
 | .error e => r = i64 e ∧ ∃ s' g', Hout = refH s' g'
abbrev R3 (n : Nat) : Nat → Nat := renI [(200, 200), (201, 201), (202, 202)] n
theorem rst_keepR {H : Heap} {B : List Nat} {U : List (Nat × Nat)} {s : St} {g n : Nat} (h1 : lookL U 201 = some 201) (h2 : lookL U 202 = some 202) : OLe H B U (AO.ren (R3 n) (rst s g)) (rst s g) :=
 rstLe rfl rfl rfl rfl .same .same .same .same .same (.row _ _ _ _ _ _ _ _ _ h1 rfl rfl rfl) (.row _ _ _ _ _ _ _ _ _ h2 rfl rfl rfl)
theorem f87' (s : St) (g : Nat) (sn : List UInt8) (sp : Nat) (ad : Int) (hl : s.syms.length < 2 ^ 40) : HeapCallK Tryz.prog 87 [.ptr 200 0 7 0 0, (⟨sn, sp, ad⟩ : Sym).av] (refH s g)
  (fun r Hout => (findS s.syms sn = none ∧ r = bb true ∧ ∃ g', Hout = refH (addS s ⟨sn, sp, ad⟩) g') ∨ (∃ y, findS s.syms sn = some y ∧ r = bb false ∧ ∃ g', Hout = refH s g')) (fun _ _ => False) :=
 HeapCallK.imp (f87 s g ⟨sn, sp, ad⟩ hl) (fun r Hout hr => by
  obtain ⟨h1, g', h2⟩ := hr
  dsimp only at h1 h2
  cases hF : findS s.syms sn with
  | none => rw [hF] at h1 h2; exact .inl ⟨rfl, h1, g', h2⟩
  | some y => rw [hF] at h1 h2; exact .inr ⟨y, rfl, h1, g', h2⟩) (fun _ _ h => h)
set_option maxHeartbeats 2000000 in
theorem f82 (s : St) (g : Nat) (x : Line) (hl : s.syms.length < 2 ^ 40) (hw : Wf s) : HeapCallK Tryz.prog 82 [.ptr 200 0 7 0 0, x.av] (refH s g) (outP (aloneF s x)) (fun _ _ => False) := by
 refine HeapCallK.body tab_ok (by kernel_rfl) Tryz.func82 rfl rfl rfl ?_
 refine pc ?_
 refine W0 ?_
 refine pc ?_
 refine W0 ?_
 refine tr (fun hn => ?_) fun hn => ?_
 ·refine W0 ?_
  have e : aloneF s x = .ok s := by unfold aloneF; rw [if_pos hn]
  rw [e]
  exact ⟨_, _, ⟨rfl, g, rfl⟩, SubS.mkK [] rfl ⟨⟨_, rfl, .same⟩, trivial⟩ (allRz rfl rfl rfl rfl rfl rfl (rst_keep rfl rfl) (.keepA) (us_keep))⟩
 ·refine W0 ?_
  refine pc ?_
  refine W0 ?_
  refine W0 ?_
  refine tr (fun ho => ?_) fun ho => ?_
  ·refine W0 ?_
   have e : aloneF s x = .error 13 := by unfold aloneF; rw [if_neg hn, if_pos (by omega)]
   rw [e]
   exact ⟨_, _, ⟨rfl, s, g, rfl⟩, SubS.mkK [] rfl ⟨⟨_, rfl, .same⟩, trivial⟩ (allRz rfl rfl rfl rfl rfl rfl (rst_keep rfl rfl) (.keepA) (us_keep))⟩
  ·refine W0 ?_
   refine awp_seq ?_
   refine awp_seq ?_
   refine awp_tree tab_ok mixed [0, 1, 3, 7] [2] (.alt 0 (.alt 1 (.alt 3 (.br 2 (.alt 4 (.alt 5 (.alt 6 (.alt 7 .done)))) (.alt 4 (.alt 2 (.alt 5 (.alt 6 (.alt 7 .done))))))))) (by kernel_rfl) (fun _ _ _ _ _ _ _ h => h) ?_
   conv => whnf
   repeat' (first | (refine W1 ?_) | exact trivial | (refine And2.mk ?_ ?_ <;> (conv => whnf)))
   ·refine CallK.heapK (f46 s g hw) [] [(200, 200), (201, 201), (202, 202)] rfl rfl rfl ⟨.pq rfl, trivial⟩ (allRz rfl rfl rfl rfl rfl rfl (rst_keep rfl rfl) (.keepA) (us_keep)) 2000 rfl (fun r Hout hr => ?_) (fun r Hout hr => ?_)
    ·obtain ⟨rfl, rfl⟩ := hr
     conv => whnf
     repeat' (first | (refine W1 ?_) | exact trivial | (refine And2.mk ?_ ?_ <;> (conv => whnf)))
     refine CallK.heapK (f87' s g x.lab 2 (s.adr : Nat) hl) [] [(200, 200), (201, 201), (202, 202)] rfl rfl rfl ⟨.pq rfl, symV .same .same .same, trivial⟩ (allRz rfl rfl rfl rfl rfl rfl (rst_keepR rfl rfl) (.keepA) (us_keep)) 3000 rfl (fun r Hout hr => ?_) (fun r Hout hr => ?_)
     ·rcases hr with ⟨hF, rfl, g', rfl⟩ | ⟨y, hF, rfl, g', rfl⟩
      ·have e : aloneF s x = .ok (addS s ⟨x.lab, 2, (s.adr : Nat)⟩) := by unfold aloneF defS; rw [if_neg hn, if_neg (by omega), if_neg hn, hF]; rfl
       rw [e]
       conv => whnf
       repeat' (first | (refine W1 ?_) | exact trivial | (refine And2.mk ?_ ?_ <;> (conv => whnf)))
       refine awp_last tab_ok mixed ?_
       refine W0 ?_
       refine awp_last tab_ok mixed ?_
       refine W0 ?_
       exact ⟨_, _, ⟨rfl, g', rfl⟩, SubS.mkK [] rfl ⟨⟨_, rfl, .same⟩, trivial⟩ (allRz rfl rfl rfl rfl rfl rfl (rst_keepR rfl rfl) (.keepA) (us_keep))⟩
      ·have e : aloneF s x = .error 8 := by unfold aloneF defS; rw [if_neg hn, if_neg (by omega), if_neg hn, hF]
       rw [e]
       conv => whnf
       repeat' (first | (refine W1 ?_) | exact trivial | (refine And2.mk ?_ ?_ <;> (conv => whnf)))
       refine awp_last tab_ok mixed ?_
       refine W0 ?_
       exact ⟨_, _, ⟨rfl, s, g', rfl⟩, SubS.mkK [] rfl ⟨⟨_, rfl, .same⟩, trivial⟩ (allRz rfl rfl rfl rfl rfl rfl (rst_keepR rfl rfl) (.keepA) (us_keep))⟩
     ·exact hr.elim
    ·exact hr.elim
   ·refine CallK.heapK (f46 s g hw) [] [(200, 200), (201, 201), (202, 202)] rfl rfl rfl ⟨.pq rfl, trivial⟩ (allRz rfl rfl rfl rfl rfl rfl (rst_keep rfl rfl) (.keepA) (us_keep)) 2000 rfl (fun r Hout hr => ?_) (fun r Hout hr => ?_)
    ·obtain ⟨rfl, rfl⟩ := hr
     conv => whnf
     repeat' (first | (refine W1 ?_) | exact trivial | (refine And2.mk ?_ ?_ <;> (conv => whnf)))
     refine CallK.heapK (f87' s g x.lab 2 (s.adr : Nat) hl) [] [(200, 200), (201, 201), (202, 202)] rfl rfl rfl ⟨.pq rfl, symV .same .same .same, trivial⟩ (allRz rfl rfl rfl rfl rfl rfl (rst_keepR rfl rfl) (.keepA) (us_keep)) 3000 rfl (fun r Hout hr => ?_) (fun r Hout hr => ?_)
     ·rcases hr with ⟨hF, rfl, g', rfl⟩ | ⟨y, hF, rfl, g', rfl⟩
      ·have e : aloneF s x = .ok (addS s ⟨x.lab, 2, (s.adr : Nat)⟩) := by unfold aloneF defS; rw [if_neg hn, if_neg (by omega), if_neg hn, hF]; rfl
       rw [e]
       conv => whnf
       repeat' (first | (refine W1 ?_) | exact trivial | (refine And2.mk ?_ ?_ <;> (conv => whnf)))
       refine awp_last tab_ok mixed ?_
       refine W0 ?_
       refine awp_last tab_ok mixed ?_
       refine W0 ?_
       exact ⟨_, _, ⟨rfl, g', rfl⟩, SubS.mkK [] rfl ⟨⟨_, rfl, .same⟩, trivial⟩ (allRz rfl rfl rfl rfl rfl rfl (rst_keepR rfl rfl) (.keepA) (us_keep))⟩
      ·have e : aloneF s x = .error 8 := by unfold aloneF defS; rw [if_neg hn, if_neg (by omega), if_neg hn, hF]
       rw [e]
       conv => whnf
       repeat' (first | (refine W1 ?_) | exact trivial | (refine And2.mk ?_ ?_ <;> (conv => whnf)))
       refine awp_last tab_ok mixed ?_
       refine W0 ?_
       exact ⟨_, _, ⟨rfl, s, g', rfl⟩, SubS.mkK [] rfl ⟨⟨_, rfl, .same⟩, trivial⟩ (allRz rfl rfl rfl rfl rfl rfl (rst_keepR rfl rfl) (.keepA) (us_keep))⟩
     ·exact hr.elim
    ·exact hr.elim
def uA (s : St) : Nat → List Nat
 | 0 => s.used
 | i + 1 => uA s i ++ [s.adr + i]
theorem uA_eq (s : St) : ∀ i, uA s i = s.used ++ newA s i
 | 0 => (List.append_nil _).symm
 | i + 1 => by show uA s i ++ [s.adr + i] = _; rw [uA_eq s i, newA_succ, List.append_assoc]
theorem uA_mem {s : St} {i : Nat} : s.adr + i ∈ uA s i ↔ s.adr + i ∈ s.used := by rw [uA_eq]; exact used_mem
theorem us_put {H : Heap} {B : List Nat} {U : List (Nat × Nat)} {u : List Nat} {o : AO} {k k' : Nat} {v : Nat → AV} (e1 : o.E = 4) (e2 : o.gen = 0) (e3 : o.sz = 1) (e4 : o.n = 36864) (hk : k' = k) (hv : v 0 = bb true) (hf : o.f = setCells (usO u).f k' 0 1 v) : OLe H B U o (usO (u ++ [k])) := by
 refine ⟨e1.symm, e2.symm, e3.symm, Nat.le_of_eq e4.symm, fun i j hi hj => ?_⟩
 have hi : i < 36864 := hi
 have hj0 : j = 0 := by rw [e3] at hj; omega
 subst hj0 hk
 have e0 : (usO (u ++ [k'])).f i 0 = bb ((u ++ [k']).contains i) := by show AV.pv (.bool ((usedL (u ++ [k'])).getD i false)) = _; rw [used_g _ hi]; rfl
 rw [e0, hf]
 unfold setCells
 by_cases h : i = k'
 ·subst h
  rw [show Nat.beq i i = true from Nat.beq_refl i]
  have e5 : (u ++ [i]).contains i = true := by simp
  rw [e5]
  show VLe H B U (v 0) _
  rw [hv]; exact .same
 ·rw [show Nat.beq i k' = false by rw [← Bool.not_eq_true, Nat.beq_eq]; exact h]
  have e5 : (u ++ [k']).contains i = u.contains i := by simp [h]
  rw [e5]
  show VLe H B U ((usO u).f i 0) _
  have e6 : (usO u).f i 0 = bb (u.contains i) := by show AV.pv (.bool ((usedL u).getD i false)) = _; rw [used_g _ hi]; rfl
  rw [e6]; exact .same
def lpP (s : St) (p : List Sym × Nat) (n : Nat) (x : Line) (i : Nat) : ASt := mkStK 70 [(0, .ptr 200 0 7 0 0), (3, .ptr 3 0 5 0 0), (5, i64 n), (6, i64 (s.adr : Nat)), (7, i64 i)] ((3, lineO x) :: refH { s with syms := p.1, used := uA s i } p.2) kpR
set_option maxHeartbeats 2000000 in
theorem f89 (s : St) (g : Nat) (x : Line) (hl : s.syms.length < 2 ^ 40) (hw : Wf s) (ho : opK x.op ≠ 12) : HeapCallK Tryz.prog 89 [.ptr 200 0 7 0 0, x.av] (refH s g) (outP (place s x (cntK (opK x.op) x.op s.mark))) (fun _ _ => False) := by
 have hb := hw.bank
 have hf := hw.off
 obtain ⟨n, hn⟩ : ∃ n, cntK (opK x.op) x.op s.mark = n := ⟨_, rfl⟩
 have hn2 : n ≤ 2 := by rw [← hn]; unfold cntK; split; omega; split <;> omega
 have h45 := f45 s g x.op ho
 rw [hn] at h45 ⊢
 refine HeapCallK.body tab_ok (by kernel_rfl) Tryz.func89 rfl rfl rfl ?_
 refine pc ?_
 refine W0 ?_
 refine pc ?_
 refine W0 ?_
 refine CallK.heapK (h45) [] [(200, 200), (201, 201), (202, 202)] rfl rfl rfl ⟨.pq rfl, .same, trivial⟩ (allRz rfl rfl rfl rfl rfl rfl (rst_keep rfl rfl) (.keepA) (us_keep)) 2000 rfl (fun r Hout hr => ?_) (fun r Hout hr => ?_)
 ·obtain ⟨rfl, rfl⟩ := hr
  refine W0 ?_
  refine pc ?_
  refine W0 ?_
  refine W0 ?_
  refine ⟨⟨by show inI64 ((s.off : Int) + n); unfold inI64; omega⟩, ?_⟩
  refine W0 ?_
  refine tr (fun hc => ?_) fun hc => ?_
  ·have e : place s x n = .error 13 := place_full (by omega)
   rw [e]
   refine W0 ?_
   exact ⟨_, _, ⟨rfl, s, g, rfl⟩, SubS.mkK [] rfl ⟨⟨_, rfl, .same⟩, trivial⟩ (allRz rfl rfl rfl rfl rfl rfl (rst_keepR rfl rfl) (.keepA) (us_keep))⟩
  ·have hc' : ¬ 1024 < s.off + n := by omega
   refine W0 ?_
   refine pc ?_
   refine W0 ?_
   refine CallK.heapK (f46 s g hw) [] [(200, 200), (201, 201), (202, 202)] rfl rfl rfl ⟨.pq rfl, trivial⟩ (allRz rfl rfl rfl rfl rfl rfl (rst_keepR rfl rfl) (.keepA) (us_keep)) 3000 rfl (fun r Hout hr => ?_) (fun r Hout hr => ?_)
   ·obtain ⟨rfl, rfl⟩ := hr
    refine W0 ?_
    refine awp_cut (fun p : List Sym × Nat => mkStK 70 [(0, .ptr 200 0 7 0 0), (3, .ptr 3 0 5 0 0), (5, i64 n), (6, i64 (s.adr : Nat))] ((3, lineO x) :: refH { s with syms := p.1 } p.2) kpR) (fun p => defL s.syms x.lab 2 s.adr = some p.1) (fun K hK => ?_) (fun p hp => ?_)
    ·refine awp_last tab_ok mixed ?_
     refine W0 ?_
     refine tr (fun hlab => ?_) fun hlab => ?_
     ·refine W0 ?_
      refine W0 ?_
      refine CallK.heapK (f87' s g x.lab 2 (s.adr : Nat) hl) [] [(200, 200), (201, 201), (202, 202)] rfl rfl rfl ⟨.pq rfl, symV .same .same .same, trivial⟩ (allRz rfl rfl rfl rfl rfl rfl (rst_keepR rfl rfl) (.keepA) (us_keep)) 4000 rfl (fun r Hout hr => ?_) (fun r Hout hr => ?_)
      ·rcases hr with ⟨hF, rfl, g', rfl⟩ | ⟨y, hF, rfl, g', rfl⟩
       ·have hd : defL s.syms x.lab 2 (s.adr : Nat) = some (s.syms ++ [⟨x.lab, 2, (s.adr : Nat)⟩]) := by unfold defL; rw [if_neg hlab, hF]
        refine W0 ?_
        exact hK _ (s.syms ++ [⟨x.lab, 2, (s.adr : Nat)⟩], g') hd (SubS.mkK [] rfl ⟨⟨_, rfl, .pq rfl⟩, ⟨_, rfl, .pq rfl⟩, ⟨_, rfl, .same⟩, ⟨_, rfl, .same⟩, trivial⟩ ⟨.inl ⟨_, _, rfl, rfl, rfl, line_keep⟩, allRz rfl rfl rfl rfl rfl rfl (s := addS s ⟨x.lab, 2, (s.adr : Nat)⟩) (rst_keepR rfl rfl) .keepA us_keep⟩)
       ·have hd : defL s.syms x.lab 2 (s.adr : Nat) = none := by unfold defL; rw [if_neg hlab, hF]
        have e : place s x n = .error 8 := place_dup hc' hd
        rw [e]
        refine W0 ?_
        exact ⟨_, _, ⟨rfl, s, g', rfl⟩, SubS.mkK [] rfl ⟨⟨_, rfl, .same⟩, trivial⟩ (allRz rfl rfl rfl rfl rfl rfl (rst_keepR rfl rfl) (.keepA) (us_keep))⟩
      ·exact hr.elim
     ·have hd : defL s.syms x.lab 2 (s.adr : Nat) = some s.syms := by unfold defL; rw [if_pos hlab]
      refine W0 ?_
      exact hK _ (s.syms, g) hd (SubS.mkK [] rfl ⟨⟨_, rfl, .pq rfl⟩, ⟨_, rfl, .pq rfl⟩, ⟨_, rfl, .same⟩, ⟨_, rfl, .same⟩, trivial⟩ ⟨.inl ⟨_, _, rfl, rfl, rfl, line_box rfl rfl rfl rfl fun _ => rfl⟩, allRz rfl rfl rfl rfl rfl rfl (s := s) (rst_keepR rfl rfl) .keepA us_keep⟩)
    ·refine awp_last tab_ok mixed ?_
     refine W0 ?_
     refine ex_loop tab_ok mixed (fun i : Nat => i ≤ n ∧ ∀ j, j < i → s.adr + j ∉ s.used) (lpP s p n x) (fun i => n - i) 0 ⟨Nat.zero_le _, fun j hj => absurd hj (Nat.not_lt_zero j)⟩ (SubS.mkK [] rfl ⟨⟨_, rfl, .pq rfl⟩, ⟨_, rfl, .pq rfl⟩, ⟨_, rfl, .same⟩, ⟨_, rfl, .same⟩, ⟨_, rfl, .same⟩, trivial⟩ ⟨.inl ⟨_, _, rfl, rfl, rfl, line_keep⟩, allRz rfl rfl rfl rfl rfl rfl (rst_keep rfl rfl) .keepA us_keep⟩) ?_
     rintro i ⟨hi, hno⟩
     refine W0 ?_
     refine tr (fun hc => ?_) fun hc => ?_
     ·have hlt : i < n := by omega
      have hai : s.adr + i < 36864 := by unfold St.adr; omega
      refine W0 ?_
      refine W0 ?_
      refine ⟨⟨by unfold inI64; omega⟩, ?_⟩
      refine W0 ?_
      refine ⟨⟨by omega, by show (s.adr : Int) + i < 36864; omega, rfl⟩, ?_⟩
      refine W0 ?_
      refine ⟨⟨rfl, rfl, by show 0 + ((s.adr : Int) + i).toNat < 36864; omega, nle rfl⟩, ?_⟩
      refine W0 ?_
      have eg : (usedL (uA s i)).getD (0 + ((s.adr : Int) + i).toNat) false = (uA s i).contains (s.adr + i) := by
       rw [show 0 + ((s.adr : Int) + i).toNat = s.adr + i by omega]
       exact used_g _ hai
      refine ⟨fun h => ?_, fun h => ?_⟩
      ·have h := eg.symm.trans h
       have hu : s.adr + i ∈ s.used := uA_mem.mp (by simpa using h)
       have e : place s x n = .error 8 := place_used hc' hp hlt hu
       rw [e]
       refine W0 ?_
       exact ⟨_, _, ⟨rfl, _, _, rfl⟩, SubS.mkK [] rfl ⟨⟨_, rfl, .same⟩, trivial⟩ (allRz rfl rfl rfl rfl rfl rfl (rst_keep rfl rfl) (.keepA) (us_keep))⟩
      ·have h := eg.symm.trans h
       have hu : s.adr + i ∉ s.used := fun h' => by have := uA_mem.mpr h'; simp [this] at h
       refine W0 ?_
       refine W0 ?_
       refine ⟨⟨by unfold inI64; omega⟩, ?_⟩
       refine W0 ?_
       refine ⟨⟨by omega, by show (s.adr : Int) + i < 36864; omega, rfl⟩, ?_⟩
       refine W0 ?_
       refine ⟨⟨rfl, rfl, by show 0 + ((s.adr : Int) + i).toNat < 36864; omega, nle rfl⟩, ?_⟩
       refine W0 ?_
       refine ⟨⟨by unfold inI64; omega⟩, ?_⟩
       refine W0 ?_
       exact ⟨i + 1, ⟨hlt, fun j hj => by rcases Nat.lt_or_ge j i with h | h; exact hno j h; rw [show j = i by omega]; exact hu⟩, SubS.mkK [] rfl ⟨⟨_, rfl, .pq rfl⟩, ⟨_, rfl, .pq rfl⟩, ⟨_, rfl, .same⟩, ⟨_, rfl, .same⟩, ⟨_, rfl, .same⟩, trivial⟩ ⟨.inl ⟨_, _, rfl, rfl, rfl, line_keep⟩, allRz rfl rfl rfl rfl rfl rfl (rst_keep rfl rfl) .keepA (us_put (v := fun _ => bb true) (u := uA s i) (k := s.adr + i) (k' := 0 + ((s.adr : Int) + i).toNat) rfl rfl rfl rfl (by omega) rfl rfl)⟩, by omega⟩
     ·have hni : i = n := by omega
      subst hni
      have e : place s x i = .ok { s with syms := p.1, off := s.off + i, mark := decide (x.op = nXINDEX), used := uA s i } := by rw [uA_eq]; exact place_done hc' hp hno
      rw [e]
      refine W0 ?_
      refine W0 ?_
      refine ⟨⟨by show inI64 ((s.off : Int) + i); unfold inI64; omega⟩, ?_⟩
      refine W0 ?_
      refine W0 ?_
      exact ⟨_, _, ⟨rfl, p.2, rfl⟩, SubS.mkK [] rfl ⟨⟨_, rfl, .same⟩, trivial⟩ (allRz rfl rfl rfl rfl rfl rfl (rstLe rfl rfl rfl rfl .same .same .same .same (VLe.bool bdec) (.rq rfl) (.rq rfl)) (.keepA) (us_keep))⟩
   ·exact hr.elim
 ·exact hr.elim
end Go.Proofs.YtkeecnoafjhhdaaGreatDoor
namespace Go.Proofs.YtkeecnoafjhhdaaGreatDoor
open Go Go.AM
def tb121 : Tr := .alt 11 (.alt 12 (.alt 13 (.alt 14 .done)))
def tb126 : Tr := .br 6 (.alt 10 tb121) (.alt 10 (.alt 6 tb121))
def tb123 : Tr := .br 6 (.alt 9 (.alt 10 tb121)) (.alt 9 tb126)
def tb124 : Tr := .br 4 tb121 (.alt 11 (.alt 4 (.alt 12 (.alt 13 (.alt 14 .done)))))
def tb127 : Tr := .br 4 (.alt 9 (.alt 10 tb121)) (.alt 9 (.br 4 (.alt 10 tb121) (.alt 10 tb124)))
def tb1210 : Tr := .br 4 tb126 (.br 6 (.br 4 (.alt 10 tb121) (.alt 10 tb124)) (.alt 10 (.br 4 (.alt 6 tb121) (.alt 6 tb124))))
def tb122 : Tr := .br 4 tb123 (.br 6 tb127 (.alt 9 tb1210))
def tb125 : Tr := .alt 8 (.alt 9 (.alt 10 tb121))
def tb128 : Tr := .br 5 tb123 (.alt 9 (.br 5 tb126 (.alt 10 (.alt 5 (.alt 6 tb121)))))
def tb129 : Tr := .br 6 tb125 (.alt 8 tb123)
def tb120 : Tr := .alt 0 (.alt 1 (.alt 2 (.alt 3 (.br 4 (.br 5 (.br 6 (.alt 7 tb125) (.alt 7 tb129)) (.alt 7 (.br 5 tb129 (.alt 8 tb128)))) (.br 5 (.br 4 (.br 6 (.alt 7 tb125) (.alt 7 tb129)) (.br 6 (.br 4 (.alt 7 tb125) (.alt 7 (.br 4 tb125 (.alt 8 tb127)))) (.alt 7 (.br 4 tb129 (.br 6 (.br 4 tb125 (.alt 8 tb127)) (.alt 8 tb122)))))) (.alt 7 (.br 4 (.br 5 tb129 (.alt 8 tb128)) (.br 5 (.br 4 tb129 (.br 6 (.br 4 tb125 (.alt 8 tb127)) (.alt 8 tb122))) (.alt 8 (.br 4 tb128 (.br 5 tb122 (.alt 9 (.br 4 (.br 5 tb126 (.alt 10 (.alt 5 (.alt 6 tb121)))) (.br 5 tb1210 (.alt 10 (.br 4 (.alt 5 (.alt 6 tb121)) (.alt 5 (.br 4 (.alt 6 tb121) (.alt 6 tb124)))))))))))))))))))
attribute [local irreducible] AWP CallK PureCall SubS HeapCallK
theorem outP_elim {R : Rs St} {r : AV} {Hout : List (Nat × AO)} (h : outP R r Hout) : ∃ (e : Int) (s' : St) (g' : Nat), r = i64 e ∧ Hout = refH s' g' ∧ outP R (i64 e) (refH s' g') := by
 cases R with
 | ok s1 => obtain ⟨rfl, g', rfl⟩ := h; exact ⟨0, s1, g', rfl, rfl, rfl, g', rfl⟩
 | error e => obtain ⟨rfl, s', g', rfl⟩ := h; exact ⟨e, s', g', rfl, rfl, rfl, s', g', rfl⟩
theorem eql_ne {s : St} {x : Line} {y : Sym} {e : Int} (h : eqlR s x = (y, e)) (hne : ¬ e = 0) : equalsF s x = .error e := by
 unfold eqlR at h
 unfold equalsF
 by_cases hk : x.arg.k = 1
 ·rw [if_pos hk] at h
  exact absurd (Prod.mk.inj h).2.symm hne
 rw [if_neg hk] at h ⊢
 cases hF : findS s.syms x.arg.nm with
 | none => rw [hF] at h; rw [← (Prod.mk.inj h).2]
 | some z =>
   rw [hF] at h
   dsimp only at h ⊢
   by_cases hv : valS z.sp (z.ad + x.arg.v) = false
   ·rw [if_pos hv] at h ⊢; rw [← (Prod.mk.inj h).2]
   ·rw [if_neg hv] at h; exact absurd (Prod.mk.inj h).2.symm hne
theorem eql_ok {s : St} {x : Line} {y : Sym} (hl : ¬ x.lab = []) (h : eqlR s x = (y, 0)) : y = ⟨x.lab, y.sp, y.ad⟩ ∧ equalsF s x = match findS s.syms x.lab with | some _ => .error 8 | none => .ok (addS s ⟨x.lab, y.sp, y.ad⟩) := by
 unfold eqlR at h
 unfold equalsF defS
 by_cases hk : x.arg.k = 1
 ·rw [if_pos hk] at h
  obtain rfl := (Prod.mk.inj h).1
  refine ⟨rfl, ?_⟩
  rw [if_pos hk, if_neg hl]
  cases findS s.syms x.lab <;> rfl
 rw [if_neg hk] at h ⊢
 cases hF : findS s.syms x.arg.nm with
 | none => rw [hF] at h; exact absurd (Prod.mk.inj h).2 (by decide)
 | some z =>
   rw [hF] at h
   dsimp only at h ⊢
   by_cases hv : valS z.sp (z.ad + x.arg.v) = false
   ·rw [if_pos hv] at h; exact absurd (Prod.mk.inj h).2 (by decide)
   ·rw [if_neg hv] at h
    obtain rfl := (Prod.mk.inj h).1
    refine ⟨rfl, ?_⟩
    rw [if_neg hv, if_neg hl]
    cases findS s.syms x.lab <;> rfl
theorem nb {b : Bool} (h : (!b) = false) : b = true := by cases b <;> simp_all
theorem alw_two {f : Frm} {l : Line} (h : alwB f l = true) (h2 : f.sy = false) : ¬ l.arg.k = 2 := by
 intro hk
 unfold alwB at h
 rw [hk, h2] at h
 split at h
 ·cases h
 ·cases h
theorem alw_lab {f : Frm} {l : Line} (h : alwB f l = true) (h2 : f.lb = 2) : ¬ l.lab = [] := by
 intro hl
 unfold alwB at h
 rw [if_pos (.inl ⟨hl, h2⟩)] at h
 cases h
def frmB (F : Frm) : AO := ⟨158, 0, 6, 1, fun _ j => getL [bb F.no, bb F.nu, bb F.sy, i64 F.lb, i64 F.lo, i64 F.hi] j⟩
theorem frmB_le {H : Heap} {B : List Nat} {U : List (Nat × Nat)} {o : AO} {F : Frm} (e1 : o.E = 158) (e2 : o.gen = 0) (e3 : o.sz = 6) (e4 : o.n = 1) (h0 : VLe H B U (o.f 0 0) (bb F.no)) (h1 : VLe H B U (o.f 0 1) (bb F.nu)) (h2 : VLe H B U (o.f 0 2) (bb F.sy)) (h3 : VLe H B U (o.f 0 3) (i64 F.lb)) (h4 : VLe H B U (o.f 0 4) (i64 F.lo)) (h5 : VLe H B U (o.f 0 5) (i64 F.hi)) : OLe H B U o (frmB F) :=
 ⟨e1.symm, e2.symm, e3.symm, Nat.le_of_eq e4.symm, fun i j hi hj => by
   have hi0 : i = 0 := Nat.lt_one_iff.mp hi
   subst hi0
   rw [e3] at hj
   match j, hj with
   | 0, _ => exact h0
   | 1, _ => exact h1
   | 2, _ => exact h2
   | 3, _ => exact h3
   | 4, _ => exact h4
   | 5, _ => exact h5⟩
def stpS (s : St) (g : Nat) (x : Line) : ASt := mkStK 161 [(0, .ptr 200 0 7 0 0), (3, .ptr 3 0 5 0 0)] ((3, lineO x) :: refH s g) kpR
def stfS (s : St) (g : Nat) (x : Line) (F : Frm) : ASt := mkStK 161 [(0, .ptr 200 0 7 0 0), (3, .ptr 3 0 5 0 0), (7, .ptr 7 0 6 0 0)] ((3, lineO x) :: (7, frmB F) :: refH s g) kpR
set_option maxHeartbeats 4000000 in
theorem f47 (s : St) (g : Nat) (x : Line) (hx : LineB x) (hl : s.syms.length < 2 ^ 40) (hw : Wf s) : HeapCallK Tryz.prog 47 [.ptr 200 0 7 0 0, x.av] (refH s g) (outP (stepF s x)) (fun _ _ => False) := by
 have h0 := nm_of (k := 0) (n := x.op) (by decide)
 have h1 := nm_of (k := 1) (n := x.op) (by decide)
 have h2 := nm_of (k := 2) (n := x.op) (by decide)
 have h3 := nm_of (k := 3) (n := x.op) (by decide)
 have h4 := nm_of (k := 4) (n := x.op) (by decide)
 have h5 := nm_of (k := 5) (n := x.op) (by decide)
 have hb := hw.bank
 have hf := hw.off
 refine HeapCallK.body tab_ok (by kernel_rfl) Tryz.func47 rfl rfl rfl ?_
 refine pc ?_
 refine W0 ?_
 refine pc ?_
 refine W0 ?_
 refine c0f (tk24 x hx) ⟨lineV .same .same .same .same .same, trivial⟩ rfl ?_
 refine W0 ?_
 refine pc ?_
 refine W0 ?_
 refine tr (fun hp => ?_) fun hp => ?_
 ·have e : stepF s x = .error 2 := by unfold stepF; rw [if_pos hp]
  rw [e]
  refine W0 ?_
  exact ⟨_, _, ⟨rfl, s, g, rfl⟩, SubS.mkK [] rfl ⟨⟨_, rfl, .same⟩, trivial⟩ (allRz rfl rfl rfl rfl rfl rfl (rst_keep rfl rfl) (.keepA) (us_keep))⟩
 ·have hp' : ¬ (print x).2 ≠ 0 := fun h => h hp
  obtain ⟨hkk, hv1, hv2⟩ := prn_ok hp
  refine W0 ?_
  refine pc ?_
  refine W0 ?_
  refine tr (fun hop => ?_) fun hop => ?_
  ·have e : stepF s x = aloneF s x := by unfold stepF; rw [if_neg hp', if_pos hop]
   rw [e]
   refine W0 ?_
   refine CallK.heapK (f82 s g x hl hw) [] [(200, 200), (201, 201), (202, 202)] rfl rfl rfl ⟨.pq rfl, lineV .same .same .same .same .same, trivial⟩ (allRz rfl rfl rfl rfl rfl rfl (rst_keep rfl rfl) (.keepA) (us_keep)) 2000 rfl (fun r Hout hr => ?_) (fun r Hout hr => ?_)
   ·obtain ⟨e, s', g', rfl, rfl, hpost⟩ := outP_elim hr
    refine W0 ?_
    exact ⟨_, _, hpost, SubS.mkK [] rfl ⟨⟨_, rfl, .same⟩, trivial⟩ (allRz rfl rfl rfl rfl rfl rfl (rst_keepR rfl rfl) (.keepA) (us_keep))⟩
   ·exact hr.elim
  ·refine W0 ?_
   have h83 := f83 x.op
   by_cases h12 : opK x.op = 12
   ·have e : stepF s x = .error 7 := by unfold stepF; rw [if_neg hp', if_neg hop, if_pos h12]
    have e2 : formV x.op = tupV [frmV ⟨false, false, false, 0, 0, 0⟩, bb false] := by unfold formV; rw [h12]; rfl
    rw [e2] at h83
    rw [e]
    refine pc ?_
    refine W0 ?_
    refine c0f h83 ⟨.same, trivial⟩ rfl ?_
    refine W0 ?_
    refine pc ?_
    refine W0 ?_
    exact ⟨_, _, ⟨rfl, s, g, rfl⟩, SubS.mkK [] rfl ⟨⟨_, rfl, .same⟩, trivial⟩ (allRz rfl rfl rfl rfl rfl rfl (rst_keep rfl rfl) (.keepA) (us_keep))⟩
   ·obtain ⟨F, hF⟩ : ∃ F, frmK (opK x.op) x.op = F := ⟨_, rfl⟩
    have e2 : formV x.op = tupV [frmV F, bb true] := by unfold formV; rw [if_neg h12, decide_eq_true h12, hF]
    rw [e2] at h83
    refine pc ?_
    refine W0 ?_
    refine c0f h83 ⟨.same, trivial⟩ rfl ?_
    refine W0 ?_
    refine pc ?_
    refine W0 ?_
    refine awp_cut (fun _ : Unit => stfS s g x F) (fun _ => alwB F x = true) (fun K hK => ?_) (fun _ ha => ?_)
    ·refine awp_last tab_ok mixed ?_
     refine W0 ?_
     refine c0f (f84 F x) ⟨frmV_le .same .same .same .same .same .same, lineV .same .same .same .same .same, trivial⟩ rfl ?_
     refine W0 ?_
     refine tr (fun ha => ?_) fun ha => ?_
     ·have e : stepF s x = .error 5 := by unfold stepF; rw [if_neg hp', if_neg hop, if_neg h12, hF, if_pos (by simpa using ha)]
      rw [e]
      refine W0 ?_
      exact ⟨_, _, ⟨rfl, s, g, rfl⟩, SubS.mkK [] rfl ⟨⟨_, rfl, .same⟩, trivial⟩ (allRz rfl rfl rfl rfl rfl rfl (rst_keep rfl rfl) (.keepA) (us_keep))⟩
     ·refine W0 ?_
      refine hK _ () (by simpa using ha) (SubS.mkK [] rfl ⟨⟨_, rfl, .pq rfl⟩, ⟨_, rfl, .pq rfl⟩, ⟨_, rfl, .pq rfl⟩, trivial⟩ ⟨.inl ⟨_, _, rfl, rfl, rfl, line_box rfl rfl rfl rfl fun _ => rfl⟩, .inl ⟨_, _, rfl, rfl, rfl, frmB_le rfl rfl rfl rfl .same .same .same .same .same .same⟩, allRz rfl rfl rfl rfl rfl rfl (rst_keep rfl rfl) .keepA us_keep⟩)
    ·have ha' : ¬ alwB F x = false := by rw [ha]; decide
     refine awp_cut (fun _ : Unit => stpS s g x) (fun _ => ¬ (x.arg.k = 1 ∧ ¬ (F.lo ≤ x.arg.v ∧ x.arg.v ≤ F.hi))) (fun K hK => ?_) (fun _ hr => ?_)
     ·refine awp_last tab_ok mixed ?_
      refine W0 ?_
      refine tr (fun hk1 => ?_) fun hk1 => ?_
      ·refine W0 ?_
       refine c0f (f59 x.arg.v F.lo F.hi) ⟨.same, .same, .same, trivial⟩ rfl ?_
       refine W0 ?_
       refine tr (fun hin => ?_) fun hin => ?_
       ·have hin' : ¬ (F.lo ≤ x.arg.v ∧ x.arg.v ≤ F.hi) := by simpa using hin
        have e : stepF s x = .error 3 := by unfold stepF; rw [if_neg hp', if_neg hop, if_neg h12, hF, if_neg ha', if_pos ⟨hk1, hin'⟩]
        rw [e]
        refine W0 ?_
        exact ⟨_, _, ⟨rfl, s, g, rfl⟩, SubS.mkK [] rfl ⟨⟨_, rfl, .same⟩, trivial⟩ (allRz rfl rfl rfl rfl rfl rfl (rst_keep rfl rfl) (.keepA) (us_keep))⟩
       ·refine W0 ?_
        exact hK _ () (fun h => h.2 (by simpa using hin)) (SubS.mkK [] rfl ⟨⟨_, rfl, .pq rfl⟩, ⟨_, rfl, .pq rfl⟩, trivial⟩ ⟨.inl ⟨_, _, rfl, rfl, rfl, line_keep⟩, allRz rfl rfl rfl rfl rfl rfl (rst_keep rfl rfl) .keepA us_keep⟩)
      ·refine W0 ?_
       exact hK _ () (fun h => hk1 h.1) (SubS.mkK [] rfl ⟨⟨_, rfl, .pq rfl⟩, ⟨_, rfl, .pq rfl⟩, trivial⟩ ⟨.inl ⟨_, _, rfl, rfl, rfl, line_keep⟩, allRz rfl rfl rfl rfl rfl rfl (rst_keep rfl rfl) .keepA us_keep⟩)
     ·have had : Adm x := ⟨hp, hop, h12, by rw [hF]; exact ha, fun h1 => by rw [hF]; exact Classical.not_not.mp fun hn => hr ⟨h1, hn⟩⟩
      rw [step_adm had, doF_k]
      refine awp_seq ?_
      refine pc ?_
      refine W0 ?_
      refine awp_block ?_
      refine pc ?_
      refine W0 ?_
      refine awp_cond (b := (x.op == nBANK)) rfl (fun h => ?_) (fun h => ?_)
      ·have hk : opK x.op = 0 := of_decide_eq_true (h0.symm.trans h)
       rw [hk]
       rw [hk] at hF
       subst hF
       have hkn : x.arg.k = 1 := alw_num ha rfl rfl
       have hv : 0 ≤ x.arg.v ∧ x.arg.v ≤ 35 := Classical.not_not.mp fun hn => hr ⟨hkn, hn⟩
       refine awp_last tab_ok mixed ?_
       refine W0 ?_
       refine CallK.heapK (f85 { s with bank := x.arg.v.toNat } g x.arg.v.toNat (by omega)) [] [(200, 200), (201, 201), (202, 202)] rfl rfl rfl ⟨.pq rfl, VLe.int (by omega), trivial⟩ (allRz rfl rfl rfl rfl rfl rfl (rstLe rfl rfl rfl rfl (VLe.int (by show x.arg.v = ((x.arg.v.toNat : Nat) : Int); omega)) .same .same .same .same (.rq rfl) (.rq rfl)) (.keepA) (us_keep)) 2000 rfl (fun r Hout hr => ?_) (fun r Hout hr => ?_)
       ·obtain ⟨rfl, rfl⟩ := hr
        refine W0 ?_
        refine W0 ?_
        exact ⟨_, _, ⟨rfl, g, rfl⟩, SubS.mkK [] rfl ⟨⟨_, rfl, .same⟩, trivial⟩ (allRz rfl rfl rfl rfl rfl rfl (rstLe rfl rfl rfl rfl .same .same .same .same .same (.rq rfl) (.rq rfl)) (.keepA) (us_keep))⟩
       ·exact hr.elim
      have hk0 : opK x.op ≠ 0 := of_decide_eq_false (h0.symm.trans h)
      refine pc ?_
      refine W0 ?_
      refine awp_cond (b := (x.op == nLOC)) rfl (fun h => ?_) (fun h => ?_)
      ·have hk : opK x.op = 1 := of_decide_eq_true (h1.symm.trans h)
       rw [hk]
       rw [hk] at hF
       subst hF
       have hkn : x.arg.k = 1 := alw_num ha rfl rfl
       have hv : 0 ≤ x.arg.v ∧ x.arg.v ≤ 36863 := Classical.not_not.mp fun hn => hr ⟨hkn, hn⟩
       have hq1 : x.arg.v.tdiv 1024 = ((x.arg.v.toNat / 1024 : Nat) : Int) := by rw [Int.tdiv_eq_ediv_of_nonneg hv.1]; omega
       have hq2 : x.arg.v.tmod 1024 = ((x.arg.v.toNat % 1024 : Nat) : Int) := by rw [Int.tmod_eq_emod_of_nonneg hv.1]; omega
       refine awp_last tab_ok mixed ?_
       refine W0 ?_
       refine W0 ?_
       refine ⟨⟨by rw [hq1]; unfold inI64; omega⟩, ?_⟩
       refine W0 ?_
       refine W0 ?_
       refine ⟨⟨by decide⟩, ?_⟩
       refine W0 ?_
       refine W0 ?_
       exact ⟨_, _, ⟨rfl, g, rfl⟩, SubS.mkK [] rfl ⟨⟨_, rfl, .same⟩, trivial⟩ (allRz rfl rfl rfl rfl rfl rfl (rstLe rfl rfl rfl rfl (VLe.int hq1) (VLe.int hq2) .same .same .same (.rq rfl) (.rq rfl)) (.keepA) (us_keep))⟩
      have hk1 : opK x.op ≠ 1 := of_decide_eq_false (h1.symm.trans h)
      refine pc ?_
      refine W0 ?_
      refine awp_cond (b := (x.op == nEBANK)) rfl (fun h => ?_) (fun h => ?_)
      ·have hk : opK x.op = 2 := of_decide_eq_true (h2.symm.trans h)
       rw [hk]
       rw [hk] at hF
       subst hF
       have hkn : x.arg.k = 1 := alw_num ha rfl rfl
       have hv : 0 ≤ x.arg.v ∧ x.arg.v ≤ 7 := Classical.not_not.mp fun hn => hr ⟨hkn, hn⟩
       refine awp_last tab_ok mixed ?_
       refine W0 ?_
       refine W0 ?_
       exact ⟨_, _, ⟨rfl, g, rfl⟩, SubS.mkK [] rfl ⟨⟨_, rfl, .same⟩, trivial⟩ (allRz rfl rfl rfl rfl rfl rfl (rstLe rfl rfl rfl rfl .same .same .same (VLe.int (by show x.arg.v = ((x.arg.v.toNat : Nat) : Int); omega)) .same (.rq rfl) (.rq rfl)) (.keepA) (us_keep))⟩
      have hk2 : opK x.op ≠ 2 := of_decide_eq_false (h2.symm.trans h)
      refine pc ?_
      refine W0 ?_
      refine awp_cond (b := (x.op == nELOC)) rfl (fun h => ?_) (fun h => ?_)
      ·have hk : opK x.op = 3 := of_decide_eq_true (h3.symm.trans h)
       rw [hk]
       refine awp_last tab_ok mixed ?_
       refine W0 ?_
       refine W0 ?_
       exact ⟨_, _, ⟨rfl, g, rfl⟩, SubS.mkK [] rfl ⟨⟨_, rfl, .same⟩, trivial⟩ (allRz rfl rfl rfl rfl rfl rfl (rstLe rfl rfl rfl rfl .same .same .same .same .same (.rq rfl) (.rq rfl)) (.keepA) (us_keep))⟩
      have hk3 : opK x.op ≠ 3 := of_decide_eq_false (h3.symm.trans h)
      refine pc ?_
      refine W0 ?_
      refine awp_cond (b := (x.op == nERASE)) rfl (fun h => ?_) (fun h => ?_)
      ·have hk : opK x.op = 4 := of_decide_eq_true (h4.symm.trans h)
       rw [hk]
       rw [hk] at hF
       subst hF
       have her := hw.er
       have hk01 : x.arg.k = 0 ∨ x.arg.k = 1 := by
        rcases hkk with h | h | h
        ·exact .inl h
        ·exact .inr h
        ·exact absurd h (alw_two ha rfl)
       have hN : (if x.arg.k = 0 then 1 else x.arg.v) = eraseN x := by unfold eraseN; rcases hk01 with h | h <;> rw [h] <;> rfl
       have hf86 := f86 x
       rw [hN] at hf86
       have hn : -65535 ≤ eraseN x ∧ eraseN x ≤ 65535 := by unfold eraseN; split <;> omega
       refine awp_cut (fun _ : Unit => stpS s g x) (fun _ => s.er + eraseN x ≤ 2048) (fun K hK => ?_) (fun _ hN2 => ?_)
       ·refine awp_seq ?_
        refine awp_tree tab_ok mixed [0, 1, 2, 6, 7] [3, 4] (.alt 0 (.alt 1 (.alt 2 (.br 3 (.alt 4 (.alt 5 (.alt 6 (.alt 7 .done)))) (.alt 4 (.alt 5 (.alt 3 (.alt 6 (.alt 7 .done))))))))) (by kernel_rfl) (fun _ _ _ _ _ _ _ h => h) ?_
        conv => whnf
        repeat' (first | (refine W1 ?_) | exact trivial | (refine And2.mk ?_ ?_ <;> (conv => whnf)))
        all_goals refine c0f hf86 ⟨lineV .same .same .same .same .same, trivial⟩ rfl ?_
        all_goals ((conv => whnf); repeat' (first | (refine W1 ?_) | exact trivial | (refine And2.mk ?_ ?_ <;> (conv => whnf))))
        all_goals refine ⟨⟨by show inI64 (s.er + eraseN x); unfold inI64; omega⟩, ?_⟩
        all_goals ((conv => whnf); repeat' (first | (refine W1 ?_) | exact trivial | (refine And2.mk ?_ ?_ <;> (conv => whnf))))
        all_goals refine awp_last tab_ok mixed ?_
        all_goals (refine W0 ?_)
        all_goals refine ⟨fun h => ?_, fun h => ?_⟩
        all_goals replace h := nm h
        all_goals (refine W0 ?_)
        ·have e : eraseF s x = .error 13 := by unfold eraseF; rw [if_pos (by omega)]
         rw [show doK 4 s x = .error 13 from e]
         exact ⟨_, _, ⟨rfl, s, g, rfl⟩, SubS.mkK [] rfl ⟨⟨_, rfl, .same⟩, trivial⟩ (allRz rfl rfl rfl rfl rfl rfl (rst_keep rfl rfl) (.keepA) (us_keep))⟩
        ·exact hK _ () (by omega) (SubS.mkK [] rfl ⟨⟨_, rfl, .pq rfl⟩, ⟨_, rfl, .pq rfl⟩, trivial⟩ ⟨.inl ⟨_, _, rfl, rfl, rfl, line_keep⟩, allRz rfl rfl rfl rfl rfl rfl (rst_keep rfl rfl) .keepA us_keep⟩)
        ·have e : eraseF s x = .error 13 := by unfold eraseF; rw [if_pos (by omega)]
         rw [show doK 4 s x = .error 13 from e]
         exact ⟨_, _, ⟨rfl, s, g, rfl⟩, SubS.mkK [] rfl ⟨⟨_, rfl, .same⟩, trivial⟩ (allRz rfl rfl rfl rfl rfl rfl (rst_keep rfl rfl) (.keepA) (us_keep))⟩
        ·exact hK _ () (by omega) (SubS.mkK [] rfl ⟨⟨_, rfl, .pq rfl⟩, ⟨_, rfl, .pq rfl⟩, trivial⟩ ⟨.inl ⟨_, _, rfl, rfl, rfl, line_keep⟩, allRz rfl rfl rfl rfl rfl rfl (rst_keep rfl rfl) .keepA us_keep⟩)
       refine awp_cut (fun p : List Sym × Nat => stpS { s with syms := p.1 } p.2 x) (fun p => defL s.syms x.lab 1 s.er = some p.1) (fun K hK => ?_) (fun p hd => ?_)
       ·refine awp_seq ?_
        by_cases hlab : x.lab = []
        ·have hd : defL s.syms x.lab 1 s.er = some s.syms := by unfold defL; rw [if_pos hlab]
         refine awp_tree tab_ok mixed [0, 2, 3] [1, 14] tb120 (by kernel_rfl) (fun _ _ _ _ _ _ _ h => h) ?_
         conv => whnf
         repeat' (first | (refine W1 ?_) | exact trivial | (refine And2.mk ?_ ?_ <;> (conv => whnf)))
         all_goals refine ⟨fun h => absurd h (by rw [hlab]; decide), fun h => ?_⟩
         all_goals ((conv => whnf); repeat' (first | (refine W1 ?_) | exact trivial | (refine And2.mk ?_ ?_ <;> (conv => whnf))))
         all_goals refine awp_last tab_ok mixed ?_
         all_goals (refine W0 ?_)
         all_goals exact hK _ (s.syms, g) hd (SubS.mkK [] rfl ⟨⟨_, rfl, .pq rfl⟩, ⟨_, rfl, .pq rfl⟩, trivial⟩ ⟨.inl ⟨_, _, rfl, rfl, rfl, line_keep⟩, allRz rfl rfl rfl rfl rfl rfl (rst_keep rfl rfl) .keepA us_keep⟩)
        ·have hlb : (x.lab == []) = false := by simp [hlab]
         have e8 : ∀ y, findS s.syms x.lab = some y → ∀ g', outP (doK 4 s x) (i64 8) (refH s g') := fun y hF g' => by
          have e : eraseF s x = .error 8 := by unfold eraseF defS; rw [if_neg (by omega), if_neg hlab, hF]
          rw [show doK 4 s x = .error 8 from e]
          exact ⟨rfl, s, g', rfl⟩
         have e0 : findS s.syms x.lab = none → defL s.syms x.lab 1 s.er = some (s.syms ++ [⟨x.lab, 1, s.er⟩]) := fun hF => by unfold defL; rw [if_neg hlab, hF]
         refine awp_tree tab_ok mixed [0, 2, 3] [1, 14] tb120 (by kernel_rfl) (fun _ _ _ _ _ _ _ h => h) ?_
         conv => whnf
         repeat' (first | (refine W1 ?_) | exact trivial | (refine And2.mk ?_ ?_ <;> (conv => whnf)))
         all_goals refine ⟨fun h => ?_, fun h => absurd (hlb.symm.trans (nb h)) (by decide)⟩
         all_goals ((conv => whnf); repeat' (first | (refine W1 ?_) | exact trivial | (refine And2.mk ?_ ?_ <;> (conv => whnf))))
         all_goals (refine CallK.heapK (f87' s g x.lab 1 s.er hl) [] [(200, 200), (201, 201), (202, 202)] rfl rfl rfl ⟨.pq rfl, symV .same .same .same, trivial⟩ (allRz rfl rfl rfl rfl rfl rfl (rst_keep rfl rfl) (.keepA) (us_keep)) 3000 rfl (fun r Hout hr => ?_) (fun r Hout hr => ?_))
         all_goals try exact False.elim hr
         all_goals rcases hr with ⟨hF, rfl, g', rfl⟩ | ⟨y, hF, rfl, g', rfl⟩
         all_goals ((conv => whnf); repeat' (first | (refine W1 ?_) | exact trivial | (refine And2.mk ?_ ?_ <;> (conv => whnf))))
         all_goals refine awp_last tab_ok mixed ?_
         all_goals (refine W0 ?_)
         all_goals first
          | exact hK _ (s.syms ++ [⟨x.lab, 1, s.er⟩], g') (e0 hF) (SubS.mkK [] rfl ⟨⟨_, rfl, .pq rfl⟩, ⟨_, rfl, .pq rfl⟩, trivial⟩ ⟨.inl ⟨_, _, rfl, rfl, rfl, line_keep⟩, allRz rfl rfl rfl rfl rfl rfl (s := addS s ⟨x.lab, 1, s.er⟩) (rst_keepR rfl rfl) .keepA us_keep⟩)
          | exact ⟨_, _, e8 y hF g', SubS.mkK [] rfl ⟨⟨_, rfl, .same⟩, trivial⟩ (allRz rfl rfl rfl rfl rfl rfl (rst_keepR rfl rfl) .keepA us_keep)⟩
       ·refine awp_seq ?_
        refine awp_tree tab_ok mixed [0, 1, 2, 3, 7, 8, 9] [4, 5] (.alt 0 (.alt 1 (.alt 2 (.alt 3 (.br 4 (.alt 5 (.alt 6 (.alt 7 (.alt 8 (.alt 9 (.alt 10 .done)))))) (.alt 5 (.alt 6 (.alt 4 (.alt 7 (.alt 8 (.alt 9 (.alt 10 .done)))))))))))) (by kernel_rfl) (fun _ _ _ _ _ _ _ h => h) ?_
        conv => whnf
        repeat' (first | (refine W1 ?_) | exact trivial | (refine And2.mk ?_ ?_ <;> (conv => whnf)))
        all_goals refine c0f hf86 ⟨lineV .same .same .same .same .same, trivial⟩ rfl ?_
        all_goals ((conv => whnf); repeat' (first | (refine W1 ?_) | exact trivial | (refine And2.mk ?_ ?_ <;> (conv => whnf))))
        all_goals refine ⟨⟨by show inI64 (s.er + eraseN x); unfold inI64; omega⟩, ?_⟩
        all_goals ((conv => whnf); repeat' (first | (refine W1 ?_) | exact trivial | (refine And2.mk ?_ ?_ <;> (conv => whnf))))
        all_goals refine awp_last tab_ok mixed ?_
        all_goals (refine W0 ?_)
        all_goals rw [show doK 4 s x = .ok { s with syms := p.1, er := s.er + eraseN x } by show eraseF s x = _; unfold eraseF; rw [if_neg (by omega), defS_L, hd]; rfl]
        all_goals (exact ⟨_, _, ⟨rfl, p.2, rfl⟩, SubS.mkK [] rfl ⟨⟨_, rfl, .same⟩, trivial⟩ (allRz rfl rfl rfl rfl rfl rfl (rstLe rfl rfl rfl rfl .same .same .same .same .same (.rq rfl) (.rq rfl)) (.keepA) (us_keep))⟩)
      have hk4 : opK x.op ≠ 4 := of_decide_eq_false (h4.symm.trans h)
      refine pc ?_
      refine W0 ?_
      refine awp_cond (b := (x.op == nEQUALS)) rfl (fun h => ?_) (fun h => ?_)
      ·have hk : opK x.op = 5 := of_decide_eq_true (h5.symm.trans h)
       rw [hk]
       rw [hk] at hF
       subst hF
       have hlab := alw_lab ha rfl
       refine pc ?_
       refine W0 ?_
       refine CallK.heapK (f88 s g x hl hw ⟨hv1, hv2⟩) [] [(200, 200), (201, 201), (202, 202)] rfl rfl rfl ⟨.pq rfl, lineV .same .same .same .same .same, trivial⟩ (allRz rfl rfl rfl rfl rfl rfl (rst_keep rfl rfl) (.keepA) (us_keep)) 2000 rfl (fun r Hout hr => ?_) (fun r Hout hr => ?_)
       ·obtain ⟨rfl, rfl⟩ := hr
        refine W0 ?_
        obtain ⟨⟨yn, ysp, yad⟩, e, he⟩ : ∃ y e, eqlR s x = (y, e) := ⟨_, _, rfl⟩
        rw [he]
        refine pc ?_
        refine W0 ?_
        refine tr (fun hne => ?_) fun hne => ?_
        ·rw [show doK 5 s x = .error e from eql_ne he hne]
         refine W0 ?_
         exact ⟨_, _, ⟨rfl, s, g, rfl⟩, SubS.mkK [] rfl ⟨⟨_, rfl, .same⟩, trivial⟩ (allRz rfl rfl rfl rfl rfl rfl (rst_keepR rfl rfl) (.keepA) (us_keep))⟩
        ·subst hne
         obtain ⟨en, eq⟩ := eql_ok hlab he
         obtain rfl : yn = x.lab := congrArg Sym.nm en
         refine W0 ?_
         refine pc ?_
         refine W0 ?_
         refine CallK.heapK (f87' s g x.lab ysp yad hl) [] [(200, 200), (201, 201), (202, 202)] rfl rfl rfl ⟨.pq rfl, symV .same .same .same, trivial⟩ (allRz rfl rfl rfl rfl rfl rfl (rst_keepR rfl rfl) (.keepA) (us_keep)) 4000 rfl (fun r Hout hr => ?_) (fun r Hout hr => ?_)
         ·rcases hr with ⟨hF, rfl, g', rfl⟩ | ⟨z, hF, rfl, g', rfl⟩
          ·rw [show doK 5 s x = _ from eq, hF]
           refine W0 ?_
           refine awp_last tab_ok mixed ?_
           refine W0 ?_
           exact ⟨_, _, ⟨rfl, g', rfl⟩, SubS.mkK [] rfl ⟨⟨_, rfl, .same⟩, trivial⟩ (allRz rfl rfl rfl rfl rfl rfl (rst_keepR rfl rfl) (.keepA) (us_keep))⟩
          ·rw [show doK 5 s x = _ from eq, hF]
           refine W0 ?_
           exact ⟨_, _, ⟨rfl, s, g', rfl⟩, SubS.mkK [] rfl ⟨⟨_, rfl, .same⟩, trivial⟩ (allRz rfl rfl rfl rfl rfl rfl (rst_keepR rfl rfl) (.keepA) (us_keep))⟩
         ·exact hr.elim
       ·exact hr.elim
      have hk5 : opK x.op ≠ 5 := of_decide_eq_false (h5.symm.trans h)
      have e : doK (opK x.op) s x = place s x (cntK (opK x.op) x.op s.mark) := by
       revert hk0 hk1 hk2 hk3 hk4 hk5
       generalize opK x.op = k
       intro hk0 hk1 hk2 hk3 hk4 hk5
       unfold doK
       split <;> first | rfl | (exfalso; omega)
      rw [e]
      refine awp_last tab_ok mixed ?_
      refine W0 ?_
      refine awp_last tab_ok mixed ?_
      refine W0 ?_
      refine CallK.heapK (f89 s g x hl hw h12) [] [(200, 200), (201, 201), (202, 202)] rfl rfl rfl ⟨.pq rfl, lineV .same .same .same .same .same, trivial⟩ (allRz rfl rfl rfl rfl rfl rfl (rst_keep rfl rfl) (.keepA) (us_keep)) 2000 rfl (fun r Hout hr => ?_) (fun r Hout hr => ?_)
      ·obtain ⟨e, s', g', rfl, rfl, hpost⟩ := outP_elim hr
       refine W0 ?_
       exact ⟨_, _, hpost, SubS.mkK [] rfl ⟨⟨_, rfl, .same⟩, trivial⟩ (allRz rfl rfl rfl rfl rfl rfl (rst_keepR rfl rfl) (.keepA) (us_keep))⟩
      ·exact hr.elim
end Go.Proofs.YtkeecnoafjhhdaaGreatDoor
namespace Go.Proofs.YtkeecnoafjhhdaaGreatDoor
open Go Go.AM
attribute [local irreducible] AWP CallK PureCall SubS HeapCallK
theorem us_zero {H : Heap} {B : List Nat} {U : List (Nat × Nat)} {o : AO} (e1 : o.E = 4) (e2 : o.gen = 0) (e3 : o.sz = 1) (e4 : o.n = 36864) (hf : ∀ i, o.f i 0 = bb false) : OLe H B U o (usO []) :=
 ⟨e1.symm, e2.symm, e3.symm, Nat.le_of_eq e4.symm, fun i j hi hj => by
   have hi : i < 36864 := hi
   have hj0 : j = 0 := by rw [e3] at hj; omega
   subst hj0
   have e0 : (usO []).f i 0 = bb false := by show AV.pv (.bool ((usedL []).getD i false)) = _; rw [used_g _ hi]; rfl
   rw [e0, hf]; exact .same⟩
set_option maxHeartbeats 2000000 in
theorem f42 : HeapCallK Tryz.prog 42 [] [] (fun r Hout => r = .ptr 200 0 7 0 0 ∧ Hout = refH st0 0) (fun _ _ => False) := by
 refine HeapCallK.run tab_ok mixed (by kernel_rfl) Tryz.func42 rfl rfl rfl ?_
 refine W0 ?_
 refine ⟨⟨by decide, by decide, by decide, by decide⟩, ?_⟩
 refine W0 ?_
 refine ⟨_, _, ⟨rfl, rfl⟩, SubS.mkN [] [(200, 3), (202, 1)] rfl rfl rfl ⟨⟨_, rfl, .pq rfl⟩, trivial⟩ ⟨.inl ⟨_, _, rfl, rfl, rfl, rstLe rfl rfl rfl rfl .same .same .same .same .same (.void _ _ _) (.rq rfl)⟩, .inr (.inl ⟨rfl, rfl⟩), .inl ⟨_, _, rfl, rfl, rfl, us_zero rfl rfl rfl rfl fun _ => rfl⟩, trivial⟩⟩
theorem bgt2 {a b : List UInt8} : (Op.bytesLess a b || a == b) = false ↔ b < a := by
 by_cases h1 : a < b
 ·constructor
  ·intro h; rw [bless, decide_eq_true h1] at h; cases h
  ·intro h; exact absurd h (List.lt_asymm h1)
 ·exact (bgt h1).symm
theorem nb2 {b : Bool} (h : (!b) = true) : b = false := by cases b <;> simp_all
theorem nb3 {b : Bool} (h : (!b) = false) (h' : b = false) : False := by cases b <;> simp_all
theorem cells_take {H : Heap} {B : List Nat} {U : List (Nat × Nat)} {O : List Sym} {g k z : Nat} (hz : z = 0) : CellsA H B U (fun i j => (rowA 65 3 Sym.p sz0 g O).f (z + i) j) Sym.p sz0 3 (O.take k) := fun i j hi hj => by
 subst hz
 rw [List.length_take] at hi
 have e : (O.take k).getD i sz0 = O.getD i sz0 := by rw [List.getD_eq_getElem?_getD, List.getD_eq_getElem?_getD, List.getElem?_take_of_lt (by omega)]
 rw [e]
 show VLe H B U ((rowA 65 3 Sym.p sz0 g O).f (0 + i) j) _
 rw [Nat.zero_add]; exact .same
theorem cells_drop {H : Heap} {B : List Nat} {U : List (Nat × Nat)} {O : List Sym} {g k z : Nat} (hz : z = k) : CellsA H B U (fun i j => (rowA 65 3 Sym.p sz0 g O).f (z + i) j) Sym.p sz0 3 (O.drop k) := fun i j hi hj => by
 subst hz
 have e : (O.drop z).getD i sz0 = O.getD (z + i) sz0 := by rw [List.getD_eq_getElem?_getD, List.getD_eq_getElem?_getD, List.getElem?_drop]
 rw [e]; exact .same
def srtS (l O : List Sym) (g i k : Nat) : ASt := mkSt 51 [(0, .pv (symsP l)), (3, .row 1000 g 3 0 i), (4, i64 i), (5, i64 k)] [(1000, rowA 65 3 Sym.p sz0 g O)]
set_option maxHeartbeats 4000000 in
theorem f54 (l : List Sym) (hl : l.length < 2 ^ 40) : PureCall Tryz.prog 54 [.pv (symsP l)] (.pv (symsP (sortB ltS l))) := by
 refine pr (by kernel_rfl) Tryz.func54 rfl rfl rfl ?_
 refine Wd ?_
 refine awp_loopI (fun x : Nat × Nat => x.1 ≤ l.length) (fun x => mkSt 51 [(0, .pv (symsP l)), (3, .row 1000 x.2 3 0 x.1), (4, i64 x.1)] [(1000, rowA 65 3 Sym.p sz0 x.2 (sortB ltS (l.take x.1)))]) (fun x => l.length - x.1) (0, 0) (Nat.zero_le _)
  (SubS.mkN [] [] rfl rfl rfl ⟨⟨_, rfl, .same⟩, ⟨_, rfl, .void _ _ _⟩, ⟨_, rfl, .same⟩, trivial⟩ ⟨.inr (.inl ⟨rfl, rfl⟩), trivial⟩) ?_
 rintro ⟨i, g⟩ hi
 dsimp only at hi ⊢
 refine pc ?_
 refine Wd ?_
 refine tr (fun hc => ?_) fun hc => ?_
 ·have hlt : i < l.length := by omega
  obtain ⟨O, hO⟩ : ∃ O, sortB ltS (l.take i) = O := ⟨_, rfl⟩
  have hOl : O.length = i := by rw [← hO, sort_len, List.length_take]; omega
  have hOs : SrtB ltS O := by rw [← hO]; exact sortB_sorted ltS_asy ltS_tr _
  rw [hO]
  refine Wd ?_
  refine awp_seq (awp_block ?_)
  refine pc ?_
  refine Wd ?_
  refine awp_cut (fun k : Nat => srtS l O g i k) (fun k => k ≤ i ∧ (∀ j, k ≤ j → j < O.length → ltS (l.getD i sz0) (O.getD j sz0) = true) ∧ (k = 0 ∨ ltS (l.getD i sz0) (O.getD (k - 1) sz0) = false)) (fun K hK => ?_) (fun k hk => ?_)
  ·refine awp_block (awp_loopI (fun k : Nat => k ≤ i ∧ ∀ j, k ≤ j → j < O.length → ltS (l.getD i sz0) (O.getD j sz0) = true) (srtS l O g i) (fun k => k) i ⟨Nat.le_refl _, fun j h1 h2 => by omega⟩
    (SubS.mkN [] [(1000, 1000)] rfl rfl rfl ⟨⟨_, rfl, .same⟩, ⟨_, rfl, .rq rfl⟩, ⟨_, rfl, .same⟩, ⟨_, rfl, .same⟩, trivial⟩ ⟨.inl ⟨_, _, rfl, rfl, rfl, .keepA⟩, trivial⟩) ?_)
   rintro k ⟨hk, hhi⟩
   refine awp_seq ?_
   refine awp_last tab_ok mixed (ex_sq (ex_drawn (by kernel_rfl) ?_))
   by_cases hk0 : k = 0
   ·refine Wl ?_
    refine AD.test rfl rfl rfl ⟨fun h => absurd h (by rw [hk0]; decide), fun _ => ?_⟩
    refine Wd ?_
    refine Wl ?_
    refine AD.nil ⟨by kernel_rfl, ?_⟩
    refine Wd ?_
    refine Wd ?_
    exact hK _ k ⟨hk, hhi, .inl hk0⟩ (SubS.mkN [] [(1000, 1000)] rfl rfl rfl ⟨⟨_, rfl, .same⟩, ⟨_, rfl, .rq rfl⟩, ⟨_, rfl, .same⟩, ⟨_, rfl, .same⟩, trivial⟩ ⟨.inl ⟨_, _, rfl, rfl, rfl, .keepA⟩, trivial⟩)
   ·refine Wl ?_
    refine AD.test rfl rfl rfl ⟨fun _ => ?_, fun h => absurd h (by simp; omega)⟩
    refine Wd ?_
    refine Wl ?_
    refine ⟨⟨by unfold inI64; omega⟩, ?_⟩
    refine Wd ?_
    refine Wl ?_
    refine ⟨⟨by omega, by omega, rfl⟩, ?_⟩
    refine Wd ?_
    refine Wl ?_
    refine ⟨⟨rfl, rfl, by show 0 + ((k : Int) - 1).toNat < O.length; omega, nle rfl⟩, ?_⟩
    refine Wd ?_
    refine Wl ?_
    refine ⟨⟨by omega, by omega, rfl⟩, ?_⟩
    refine Wd ?_
    refine Wl ?_
    refine ⟨⟨by decide⟩, ?_⟩
    refine Wd ?_
    refine Wl ?_
    refine ⟨⟨nle rfl⟩, ?_⟩
    refine Wd ?_
    refine Wl ?_
    refine AD.nil ⟨by kernel_rfl, ?_⟩
    refine Wd ?_
    refine Wd ?_
    have ek : 0 + ((k : Int) - 1).toNat = k - 1 := by omega
    refine ⟨fun h => ?_, fun h => ?_⟩
    ·have hgt : ltS (l.getD i sz0) (O.getD (k - 1) sz0) = true := by
      have h := bgt2.mp (nb2 h)
      rw [ek, Int.toNat_natCast] at h
      exact decide_eq_true h
     refine Wd ?_
     refine awp_last tab_ok mixed ?_
     refine Wd ?_
     refine ⟨⟨by unfold inI64; omega⟩, ?_⟩
     refine Wd ?_
     exact ⟨k - 1, ⟨by omega, fun j h1 h2 => by rcases Nat.lt_or_ge j k with h | h; rw [show j = k - 1 by omega]; exact hgt; exact hhi j h h2⟩, (SubS.mkN [] [(1000, 1000)] rfl rfl rfl ⟨⟨_, rfl, .same⟩, ⟨_, rfl, .rq rfl⟩, ⟨_, rfl, .same⟩, ⟨_, rfl, VLe.int (by omega)⟩, trivial⟩ ⟨.inl ⟨_, _, rfl, rfl, rfl, .keepA⟩, trivial⟩), by omega⟩
    ·have hgt : ltS (l.getD i sz0) (O.getD (k - 1) sz0) = false := by
      refine decide_eq_false fun hlt' => ?_
      have h' := bgt2.mpr hlt'
      rw [← ek, ← Int.toNat_natCast i] at h'
      exact nb3 h h'
     refine Wd ?_
     exact hK _ k ⟨hk, hhi, .inr hgt⟩ (SubS.mkN [] [(1000, 1000)] rfl rfl rfl ⟨⟨_, rfl, .same⟩, ⟨_, rfl, .rq rfl⟩, ⟨_, rfl, .same⟩, ⟨_, rfl, .same⟩, trivial⟩ ⟨.inl ⟨_, _, rfl, rfl, rfl, .keepA⟩, trivial⟩)
  ·obtain ⟨hk, hhi, hlo⟩ := hk
   refine awp_last tab_ok mixed ?_
   refine Wd ?_
   refine ⟨⟨by omega, by omega, rfl⟩, ?_⟩
   refine Wd ?_
   refine ⟨⟨⟨rfl, rfl, rfl, by show 0 + ((k : Nat) : Int).toNat ≤ O.length; omega⟩, by show ((k : Nat) : Int).toNat * 32 ≤ _; omega⟩, ?_⟩
   refine Wd ?_
   refine ⟨⟨by omega, by omega, rfl⟩, ?_⟩
   refine Wd ?_
   refine ⟨⟨nle rfl⟩, ?_⟩
   refine Wd ?_
   refine ⟨⟨⟨rfl, rfl, rfl, nle rfl⟩, rfl, rfl, rfl, rfl, rfl, rfl, by show (((k : Nat) : Int).toNat + 1) * 32 ≤ _; omega⟩, ?_⟩
   refine Wd ?_
   refine ⟨⟨by omega, by omega, rfl⟩, ?_⟩
   refine Wd ?_
   refine ⟨⟨⟨rfl, rfl, rfl, by show 0 + ((k : Nat) : Int).toNat + ((i : Int) - k).toNat ≤ O.length; omega⟩, rfl, rfl, rfl, rfl, rfl, rfl, by show (((k : Nat) : Int).toNat + 1 + ((i : Int) - k).toNat) * 32 ≤ _; omega⟩, ?_⟩
   refine Wd ?_
   refine awp_last tab_ok mixed ?_
   refine Wd ?_
   refine ⟨⟨by unfold inI64; omega⟩, ?_⟩
   refine Wd ?_
   have hs : sortB ltS (l.take (i + 1)) = (O.take k ++ [l.getD i sz0]) ++ O.drop k := by
    rw [sort_succ (d := sz0) hlt, hO, ins_at (d := sz0) (by omega) (ins_srt ltS_tr hOs (by omega) hlo) hhi, List.append_assoc]; rfl
   refine ⟨(i + 1, 2), hlt, SubS.mkN [] [(1000, 37)] rfl rfl rfl ⟨⟨_, rfl, .same⟩, ⟨_, rfl, .row _ _ _ _ _ _ _ _ _ rfl rfl rfl (by dsimp only; omega)⟩, ⟨_, rfl, .same⟩, trivial⟩ ⟨.inl ⟨_, _, rfl, rfl, rfl, ?_⟩, trivial⟩, by dsimp only; omega⟩
   rw [hs]
   refine CellsA.row (c := Sym.p) (L := (O.take k ++ [l.getD i sz0]) ++ O.drop k) ?_ rfl rfl (by rw [List.length_append, List.length_append, List.length_take, List.length_singleton, List.length_drop]; omega)
   refine CellsA.cat (n := ((k : Nat) : Int).toNat + 1) ?_ (by rw [List.length_append, List.length_take, List.length_singleton]; omega) (cells_drop (O := O) (k := k) (g := g) (z := 0 + ((k : Nat) : Int).toNat) (by omega))
   dsimp only
   refine CellsA.cat (n := ((k : Nat) : Int).toNat) (cells_take (O := O) (k := k) (g := g) (z := 0) rfl) (by rw [List.length_take]; omega) ?_
   refine CellsA.one (a := l.getD i sz0) fun j hj => ?_
   match j, hj with
   | 0, _ => exact .same
   | 1, _ => exact .same
   | 2, _ => exact .same
 ·have hil : i = l.length := by omega
  subst hil
  rw [List.take_length]
  refine Wd ?_
  exact ⟨[1000], .frzA rfl rfl sort_len.symm⟩
def symI (L : List Line) (x : St × Nat × Nat) : Prop := x.2.1 ≤ L.length ∧ fstI L x.2.1 x.1 ∧ x.1.syms.length ≤ x.2.1
def symS (L : List Line) (x : St × Nat × Nat) : ASt := mkSt 34 [(0, .pv (linesP L)), (5, .ptr 200 0 7 0 0), (6, i64 x.2.1)] (refH x.1 x.2.2)
set_option maxHeartbeats 4000000 in
theorem f22 (L : List Line) (hL : L.length < 2 ^ 47) (hB : ∀ l ∈ L, LineB l) : PureCall Tryz.prog 22 [.pv (linesP L)] (symT (symbolsR L)) := by
 refine pr (by kernel_rfl) Tryz.func22 rfl rfl rfl ?_
 refine W0 ?_
 refine tr (fun h0 => ?_) fun h0 => ?_
 ·refine W0 ?_
  have e : symbolsR L = ([], 0, 4) := by unfold symbolsR; rw [if_pos (by omega)]
  rw [e]
  exact done_tup [.pv (symsP []), i64 0, i64 4] [] rfl ⟨VLe.nilA, .same, .same, trivial⟩
 ·have hlen : ¬ 65536 < L.length := by omega
  refine W0 ?_
  refine CallK.heapK f42 [] [] rfl rfl rfl trivial trivial 2000 rfl (fun r Hout hr => ?_) (fun r Hout hr => hr.elim)
  obtain ⟨rfl, rfl⟩ := hr
  refine W0 ?_
  refine ex_loop tab_ok mixed (symI L) (symS L) (fun x => L.length - x.2.1) (st0, 0, 0) ⟨Nat.zero_le _, ⟨wf0, rfl⟩, Nat.le_refl _⟩
   (SubS.mkN [] [(200, 2200), (201, 2201), (202, 2202)] rfl rfl rfl ⟨⟨_, rfl, .same⟩, ⟨_, rfl, .pq rfl⟩, ⟨_, rfl, .same⟩, trivial⟩
     ⟨.inl ⟨_, _, rfl, rfl, rfl, rstLe rfl rfl rfl rfl .same .same .same .same .same (.rq rfl) (.rq rfl)⟩, .inl ⟨_, _, rfl, rfl, rfl, .keepA⟩, .inl ⟨_, _, rfl, rfl, rfl, us_keep⟩, trivial⟩) ?_
  rintro ⟨s, i, g⟩ ⟨hi, hI, hsl⟩
  dsimp only at hi hI hsl
  refine W0 ?_
  refine tr (fun hc => ?_) fun hc => ?_
  ·have hc : (i : Int) < L.length := hc
   have hlt : i < L.length := by omega
   have hx := hB _ (getD_mem hlt)
   refine W0 ?_
   refine ⟨⟨by omega, by omega, rfl⟩, ?_⟩
   refine W0 ?_
   refine ⟨⟨nle rfl⟩, ?_⟩
   refine W0 ?_
   rw [Int.toNat_natCast]
   refine CallK.heapK (f47 s g (L.getD i lz) hx (by omega) hI.1) [] [(200, 200), (201, 201), (202, 202)] rfl rfl rfl ⟨.pq rfl, lineV .same .same .same .same .same, trivial⟩ (allRz rfl rfl rfl rfl rfl rfl (rst_keep rfl rfl) (.keepA) (us_keep)) 4000 rfl (fun r Hout hr => ?_) (fun r Hout hr => ?_)
   ·cases hs : stepF s (L.getD i lz) with
    | ok s1 =>
      rw [hs] at hr
      obtain ⟨rfl, g', rfl⟩ := hr
      have h1 := step_len hs
      refine W0 ?_
      refine na (by simp) ?_
      refine W0 ?_
      refine ⟨⟨by unfold inI64; omega⟩, ?_⟩
      refine W0 ?_
      exact ⟨(s1, i + 1, g'), ⟨hlt, fst_step hlt hI hs, by dsimp only; omega⟩, SubS.mkN [] [(200, 200), (201, 201), (202, 202)] rfl rfl rfl ⟨⟨_, rfl, .same⟩, ⟨_, rfl, .pq rfl⟩, ⟨_, rfl, .same⟩, trivial⟩ ⟨.inl ⟨_, _, rfl, rfl, rfl, rst_keepR rfl rfl⟩, .inl ⟨_, _, rfl, rfl, rfl, .keepA⟩, .inl ⟨_, _, rfl, rfl, rfl, us_keep⟩, trivial⟩, by dsimp only; omega⟩
    | error e =>
      rw [hs] at hr
      obtain ⟨rfl, s', g', rfl⟩ := hr
      have he := step_er hs
      have e' : symbolsR L = ([], ((i + 1 : Nat) : Int), e) := by unfold symbolsR; rw [if_neg hlen, fst_err hlt hI hs]
      rw [e']
      refine W0 ?_
      refine ⟨fun _ => ?_, fun h => absurd (nm h) he⟩
      refine W0 ?_
      refine ⟨⟨by unfold inI64; omega⟩, ?_⟩
      refine W0 ?_
      exact done_tup [.pv (symsP []), i64 ((i + 1 : Nat) : Int), i64 e] [] rfl ⟨VLe.nilA, VLe.int rfl, .same, trivial⟩
   ·exact hr.elim
  ·have hc : (L.length : Int) ≤ i := hc
   have hil : i = L.length := by omega
   subst hil
   have e : symbolsR L = (sortB ltS s.syms, 0, 0) := by unfold symbolsR; rw [if_neg hlen, fst_end hI]
   rw [e]
   refine W0 ?_
   refine W0 ?_
   refine CallK.drop [201] (f54 s.syms (by omega)) ⟨.frzA rfl rfl rfl, trivial⟩ ?_
   refine W0 ?_
   exact done_tup [.pv (symsP (sortB ltS s.syms)), i64 0, i64 0] [] rfl ⟨.same, .same, .same, trivial⟩
set_option maxHeartbeats 2000000 in
theorem f23 (l : List Sym) (hl : l.length < 2 ^ 47) : PureCall Tryz.prog 23 [.pv (symsP l), .pv (symsP l)] (bb true) := by
 refine pr (by kernel_rfl) Tryz.func23 rfl rfl rfl ?_
 refine Wd ?_
 refine tr (fun h0 => ?_) fun h0 => ?_
 ·exact absurd rfl h0
 ·refine Wd ?_
  refine awp_loopI (fun i : Nat => i ≤ l.length) (fun i => mkSt 26 [(0, .pv (symsP l)), (1, .pv (symsP l)), (5, i64 i)] []) (fun i => l.length - i) 0 (Nat.zero_le _) (SubS.mk [] rfl ⟨⟨_, rfl, .same⟩, ⟨_, rfl, .same⟩, ⟨_, rfl, .same⟩, trivial⟩ trivial) ?_
  intro i hi
  refine pc ?_
  refine Wd ?_
  refine tr (fun hc => ?_) fun hc => ?_
  ·have hlt : i < l.length := by omega
   refine Wd ?_
   refine awp_seq (awp_block ?_)
   refine awp_last tab_ok mixed (ex_sq (ex_drawn (by kernel_rfl) ?_))
   refine Wl ?_
   refine ⟨⟨by omega, by omega, rfl⟩, ?_⟩
   refine Wd ?_
   refine Wl ?_
   refine ⟨⟨nle rfl⟩, ?_⟩
   refine Wd ?_
   refine Wl ?_
   refine ⟨⟨by omega, by omega, rfl⟩, ?_⟩
   refine Wd ?_
   refine Wl ?_
   refine ⟨⟨nle rfl⟩, ?_⟩
   refine Wd ?_
   refine Wl ?_
   refine AD.nil ⟨by kernel_rfl, ?_⟩
   refine Wd ?_
   refine Wd ?_
   refine ⟨fun h => ?_, fun _ => ?_⟩
   ·simp at h
   ·refine Wd ?_
    refine awp_last tab_ok mixed ?_
    refine Wd ?_
    refine ⟨⟨by unfold inI64; omega⟩, ?_⟩
    refine Wd ?_
    exact ⟨i + 1, hlt, SubS.mk [] rfl ⟨⟨_, rfl, .same⟩, ⟨_, rfl, .same⟩, ⟨_, rfl, .same⟩, trivial⟩ trivial, by omega⟩
  ·refine Wd ?_
   exact done_bool _ _ rfl rfl rfl
def objI (o : ObjR) : AO := objB (.pv (cellsP o.cells)) (.pv (symsP o.syms))
def wcell (w : Nat) (_ : Nat) : PV := .int .u16 w
def wantP (l : List Nat) : PV := sqA 51 1 wcell 0 l
def KnownOK (src : List UInt8) (at0 : Nat) (want : List Nat) : Prop := (textR src).2 = (0, 0) ∧ (textR src).1.cells = (List.range want.length).map fun i => (at0 + i, want.getD i 0)
set_option maxHeartbeats 2000000 in
theorem f24 (src : List UInt8) (at0 : Nat) (want : List Nat) (hs : B62 src) (ha : at0 < 2 ^ 32) (hw : want.length < 2 ^ 32) (hk : KnownOK src at0 want) : PureCall Tryz.prog 24 [st src, i64 at0, .pv (wantP want)] (bb true) := by
 obtain ⟨h1, h2⟩ := hk
 obtain ⟨o, ho⟩ : ∃ o, textR src = (o, 0, 0) := ⟨(textR src).1, Prod.ext rfl h1⟩
 rw [ho] at h2
 have h2 : o.cells = (List.range want.length).map fun i => (at0 + i, want.getD i 0) := h2
 have hlen : o.cells.length = want.length := by rw [h2]; simp
 have hget : ∀ i, i < want.length → o.cells.getD i (0, 0) = (at0 + i, want.getD i 0) := fun i hi => by
  rw [h2, List.getD_eq_getElem?_getD, List.getElem?_map, List.getElem?_range hi]; rfl
 have h16 := f16 src hs
 rw [ho] at h16
 refine pr (by kernel_rfl) Tryz.func24 rfl rfl rfl ?_
 refine Wd ?_
 refine c0d h16 ⟨.same, trivial⟩ ?_
 refine Wd ?_
 refine an (by simp) ?_
 refine Wd ?_
 refine an (by simp) ?_
 refine Wd ?_
 refine tr (fun h0 => ?_) fun h0 => ?_
 ·exact absurd (by rw [hlen]) h0
 ·refine Wd ?_
  refine awp_loopI (fun i : Nat => i ≤ want.length) (fun i => mkSt 60 [(1, i64 at0), (2, .pv (wantP want)), (7, .ptr 7 0 2 0 0), (10, i64 i)] [(7, objI o)]) (fun i => want.length - i) 0 (Nat.zero_le _) (SubS.mk [] rfl ⟨⟨_, rfl, .same⟩, ⟨_, rfl, .same⟩, ⟨_, rfl, .pq rfl⟩, ⟨_, rfl, .same⟩, trivial⟩ ⟨.inl ⟨_, _, rfl, rfl, rfl, objB_le rfl rfl rfl rfl .same .same⟩, trivial⟩) ?_
  intro i hi
  refine pc ?_
  refine Wd ?_
  refine tr (fun hc => ?_) fun hc => ?_
  ·have hlt : i < want.length := by omega
   have hg := hget i hlt
   refine Wd ?_
   refine awp_seq (awp_block ?_)
   refine awp_last tab_ok mixed (ex_sq (ex_drawn (by kernel_rfl) ?_))
   refine Wl ?_
   refine ⟨⟨by omega, by rw [hlen]; omega, rfl⟩, ?_⟩
   refine Wd ?_
   refine Wl ?_
   refine ⟨⟨by decide⟩, ?_⟩
   refine Wd ?_
   refine Wl ?_
   refine ⟨⟨nle rfl⟩, ?_⟩
   refine Wd ?_
   refine Wl ?_
   refine ⟨⟨by unfold inI64; omega⟩, ?_⟩
   refine Wd ?_
   refine Wl ?_
   rw [Int.toNat_natCast, hg]
   refine AD.test rfl rfl rfl ⟨fun _ => ?_, fun h => absurd h (by show ¬ ((((at0 + i : Nat) : Int) != (at0 : Int) + i) = true); simp)⟩
   refine Wd ?_
   refine Wl ?_
   refine ⟨⟨by omega, by rw [hlen]; omega, rfl⟩, ?_⟩
   refine Wd ?_
   refine Wl ?_
   refine ⟨⟨by decide⟩, ?_⟩
   refine Wd ?_
   refine Wl ?_
   refine ⟨⟨nle rfl⟩, ?_⟩
   refine Wd ?_
   refine Wl ?_
   refine ⟨⟨by omega, by omega, rfl⟩, ?_⟩
   refine Wd ?_
   refine Wl ?_
   refine ⟨⟨nle rfl⟩, ?_⟩
   refine Wd ?_
   refine Wl ?_
   refine AD.nil ⟨by kernel_rfl, ?_⟩
   refine Wd ?_
   refine Wd ?_
   rw [Int.toNat_natCast, hg]
   refine ⟨fun h => absurd h (by show ¬ (((want.getD i 0 : Nat) : Int) != (want.getD i 0 : Nat)) = true; simp), fun _ => ?_⟩
   refine Wd ?_
   refine awp_last tab_ok mixed ?_
   refine Wd ?_
   refine ⟨⟨by unfold inI64; omega⟩, ?_⟩
   refine Wd ?_
   exact ⟨i + 1, hlt, SubS.mk [] rfl ⟨⟨_, rfl, .same⟩, ⟨_, rfl, .same⟩, ⟨_, rfl, .pq rfl⟩, ⟨_, rfl, .same⟩, trivial⟩ ⟨.inl ⟨_, _, rfl, rfl, rfl, objB_le rfl rfl rfl rfl .same .same⟩, trivial⟩, by omega⟩
  ·refine Wd ?_
   exact done_bool _ _ rfl rfl rfl
end Go.Proofs.YtkeecnoafjhhdaaGreatDoor
namespace Go.Proofs.YtkeecnoafjhhdaaGreatDoor
open Go Go.AM
attribute [local irreducible] AWP CallK PureCall SubS HeapCallK
def srcA : List UInt8 := [32, 66, 65, 78, 75, 32, 52, 10, 71, 79, 32, 67, 65, 32, 88, 10, 32, 77, 80, 32, 88, 10, 88, 32, 79, 67, 84, 32, 53]
def srcB : List UInt8 := [65, 32, 69, 82, 65, 83, 69, 32, 51, 10, 32, 84, 67, 32, 66]
instance (src : List UInt8) (a : Nat) (w : List Nat) : Decidable (KnownOK src a w) := by unfold KnownOK; infer_instance
def RefOK (src : List UInt8) (ln e : Int) : Prop := (textR src).1.cells.length = 0 ∧ (textR src).1.syms.length = 0 ∧ (textR src).2 = (ln, e)
instance (src : List UInt8) (ln e : Int) : Decidable (RefOK src ln e) := by unfold RefOK; infer_instance
theorem ref_eq {src : List UInt8} {ln e : Int} (h : RefOK src ln e) : textR src = (⟨[], []⟩, ln, e) := by
 obtain ⟨h1, h2, h3⟩ := h
 generalize textR src = x at *
 obtain ⟨⟨c, s⟩, y⟩ := x
 have g1 : c = [] := List.eq_nil_of_length_eq_zero h1
 have g2 : s = [] := List.eq_nil_of_length_eq_zero h2
 have g3 : y = (ln, e) := h3
 rw [g1, g2, g3]
theorem knA : KnownOK srcA 4096 [13315, 6, 29699, 5] := by decide +kernel
theorem rfB : RefOK srcB 2 7 := by decide +kernel
theorem cellsW {H : Heap} {B : List Nat} {U : List (Nat × Nat)} {F : Nat → Nat → AV} {L : List Nat} (h : ∀ i, i < L.length → VLe H B U (F i 0) (.pv (.int .u16 (L.getD i 0 : Nat)))) : CellsA H B U F wcell 0 1 L := fun i j hi hj => by
 have : j = 0 := by omega
 subst this; exact h i hi
attribute [local irreducible] textR
set_option maxHeartbeats 2000000 in
theorem f12 : PureCall Tryz.prog 12 [] (bb true) := by
 have h26 := f26 ⟨[], 1, 1300⟩ 0 1 5 2
 rw [show reachF ⟨[], 1, 1300⟩ 0 1 5 2 = (788, 0) by decide +kernel] at h26
 have h16 := f16 srcB (by unfold B62; decide)
 rw [ref_eq rfB] at h16
 have h24 := f24 srcA 4096 [13315, 6, 29699, 5] (by unfold B62; decide) (by decide) (by decide) knA
 refine pr (by kernel_rfl) Tryz.func12 rfl rfl rfl ?_
 refine W0 ?_
 refine c0f h26 ⟨symV .same .same .same, .same, .same, .same, .same, trivial⟩ rfl ?_
 refine W0 ?_
 refine c0d h16 ⟨.same, trivial⟩ ?_
 refine W0 ?_
 refine CallK.flat [16] h24 ⟨.same, .same, VLe.frzO (g := 0) rfl rfl (CellsA.row (cellsW fun i hi => ?_) rfl rfl rfl) rfl, trivial⟩ rfl ?_
 ·match i, hi with
  | 0, _ => exact .same
  | 1, _ => exact .same
  | 2, _ => exact .same
  | 3, _ => exact .same
 refine W0 ?_
 repeat (first | (refine W1 ?_) | (refine an (by decide +kernel) ?_; conv => whnf) | (refine na (by decide +kernel) ?_; conv => whnf) | fail)
 exact done_bool _ _ rfl rfl rfl
end Go.Proofs.YtkeecnoafjhhdaaGreatDoor
namespace Go.Proofs.YtkeecnoafjhhdaaGreatDoor
open Go Go.AM
attribute [local irreducible] AWP CallK PureCall SubS HeapCallK
theorem symR_len (L : List Line) : (symbolsR L).1.length ≤ L.length := by
 unfold symbolsR
 split
 ·exact Nat.zero_le _
 cases hp : passF L 0 st0 with
 | error x => exact Nat.zero_le _
 | ok s =>
   have := pass_len _ _ _ _ hp
   dsimp only
   rw [sort_len]
   have h0 : st0.syms.length = 0 := rfl
   omega
attribute [local irreducible] textR asmR symbolsR
set_option maxHeartbeats 2000000 in
theorem f7 (L : List Line) (hL : L.length < 2 ^ 46) (hB : ∀ l ∈ L, LineB l) : PureCall Tryz.prog 7 [.pv (linesP L)] (bb true) := by
 have h1 := f21 L (by omega) hB
 have h2 := f22 L (by omega) hB
 have hl := symR_len L
 generalize symbolsR L = x at h1 h2 hl
 obtain ⟨s, a, e⟩ := x
 have h3 := f23 s (by dsimp only at hl; omega)
 refine pr (by kernel_rfl) Tryz.func7 rfl rfl rfl ?_
 refine W0 ?_
 refine tr (fun h0 => ?_) fun h0 => ?_
 ·refine W0 ?_
  refine c0f f12 trivial rfl ?_
  refine W0 ?_
  exact done_bool _ _ rfl rfl rfl
 ·refine W0 ?_
  refine c0d h1 ⟨.same, trivial⟩ ?_
  refine W0 ?_
  refine c0d h2 ⟨.same, trivial⟩ ?_
  refine W0 ?_
  refine c0f h3 ⟨.same, .same, trivial⟩ rfl ?_
  refine W0 ?_
  repeat (first | (refine W1 ?_) | (refine c0f f12 trivial rfl ?_; conv => whnf) | (refine an (by simp <;> omega) ?_; conv => whnf) | fail)
  exact done_bool _ _ rfl rfl rfl
end Go.Proofs.YtkeecnoafjhhdaaGreatDoor
