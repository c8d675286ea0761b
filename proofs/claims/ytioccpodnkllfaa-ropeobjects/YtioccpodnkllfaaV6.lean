/- Part of the proof: what the functions that the law calls compute (6). -/
import Derived.Test.YtioccpodnkllfaaV5
namespace Go.Proofs.Ytioccpodnkllfaa
open Go Go.AM
attribute [local irreducible] AWP CallK PureCall SubS HeapCall HeapCallP HeapCallK
def hunY (n m : Nat) : Nat := if m = n then 150 else 200 + m
def icl (x : Int) (_ : Nat) : PV := .int .i64 x
abbrev FS := Nat → Nat × List Int
def rowI (v : Nat × List Int) : AO := rowA 3 1 icl 0 v.1 v.2
def arrX (u : Nat → Nat) (F : FS) : AO := ⟨74, 0, 36, 1, fun _ j => .row (u j) (F j).1 1 0 (F j).2.length⟩
def updS (F : FS) (n : Nat) (v : Nat × List Int) : FS := fun m => if m = n then v else F m
theorem updS_self {F : FS} {n : Nat} {v : Nat × List Int} : updS F n v n = v := if_pos rfl
theorem updS_ne {F : FS} {n m : Nat} {v : Nat × List Int} (h : m ≠ n) : updS F n v m = F m := if_neg h
def offS (F : FS) (n : Nat) : FS := updS F n (0, [])
theorem arr_le {H : Heap} {B : List Nat} {U : List (Nat × Nat)} {o : AO} {u u' : Nat → Nat} {F F' : FS} (e1 : o.E = 74) (e2 : o.gen = 0) (e3 : o.sz = 36) (e4 : o.n = 1) (hf : ∀ j, j < 36 → o.f 0 j = .row (u j) (F j).1 1 0 (F j).2.length) (hu : ∀ j, j < 36 → lookL U (u' j) = some (u j)) (hF : ∀ j, j < 36 → F' j = F j) :
    OLe H B U o (arrX u' F') :=
  ⟨e1.symm, e2.symm, e3.symm, Nat.le_of_eq e4.symm, fun i j hi hj => by
    have hi0 : i = 0 := Nat.lt_one_iff.mp hi
    subst hi0
    rw [e3] at hj
    rw [hf j hj]
    refine .row _ _ _ _ _ _ _ _ _ (hu j hj) ?_ rfl ?_
    · rw [hF j hj]
    · rw [hF j hj]⟩
theorem SubS.keepI {st : ASt} {n : Nat} {s : List (Nat × AV)} {A : List (Nat × AO)} {F : FS} (UA : List (Nat × Nat)) (hi : injR UA = true) (hk : keysIn UA (keysL A) = true) (hl : low UA = true) (hr : (UA.all fun q => Nat.ble (q.2 + 1) 200) = true) (hn : n = st.nt)
    (hH : HFam 36 st.heap fun m => rowI (F m)) (hs : AllS st [] (UA ++ famR 36 hun fun _ => true) s) (hA : AllH st [] (UA ++ famR 36 hun fun _ => true) A) (hx : st.x = X0 := by rfl) : SubS st (mkSt n s (A ++ fam 36 fun m => rowI (F m))) := by
  refine SubS.mkF [] UA hun (fun _ => true) hi hk hl (fun m k _ _ _ _ h => by unfold hun at h; omega) (fun q hq m _ _ => ?_) hn hs hA (fun m hm => ?_) hx
  · simp only [List.all_eq_true] at hr
    have := Nat.le_of_ble_eq_true (hr q hq)
    unfold hun; omega
  · exact ⟨.inl ⟨_, _, famR_look hl hm rfl, hH m hm, rfl, .keepA⟩, trivial⟩
theorem SubS.inI {st : ASt} {n : Nat} {s : List (Nat × AV)} {A : List (Nat × AO)} {F : FS} (x : Nat) (UA : List (Nat × Nat)) (hi : injR UA = true) (hk : keysIn ((150, 200 + x) :: UA) (keysL A) = true) (hl : low UA = true) (hr : (UA.all fun q => Nat.ble (q.2 + 1) 200) = true) (hn : n = st.nt)
    (hH : HFam 36 st.heap fun m => rowI (F m)) (hs : AllS st [] (((150, 200 + x) :: UA) ++ famR 36 hun fun m => decide (m ≠ x)) s) (hA : AllH st [] (((150, 200 + x) :: UA) ++ famR 36 hun fun m => decide (m ≠ x)) A) (hx : st.x = X0 := by rfl) : SubS st (mkSt n s (A ++ fam 36 fun m => rowI (offS F x m))) := by
  have hl' : low ((150, 200 + x) :: UA) = true := by
    have : low ((150, 200 + x) :: UA) = (Nat.ble (150 + 1) 200 && low UA) := rfl
    rw [this, hl]; rfl
  simp only [List.all_eq_true] at hr
  refine SubS.mkF [] ((150, 200 + x) :: UA) hun (fun m => decide (m ≠ x)) ?_ hk hl' (fun m k _ _ _ _ h => by unfold hun at h; omega) (fun q hq m _ hbm => ?_) hn hs hA (fun m hm => ?_) hx
  · simp only [injR, Bool.and_eq_true, List.all_eq_true, Bool.not_eq_true']
    exact ⟨fun q hq => beqN_ne (by have := Nat.le_of_ble_eq_true (hr q hq); omega), hi⟩
  · unfold hun
    rcases List.mem_cons.mp hq with rfl | hq
    · have := of_decide_eq_true hbm; simp only; omega
    · have := Nat.le_of_ble_eq_true (hr q hq); omega
  · by_cases e : m = x
    · subst e
      exact ⟨.inr (.inl ⟨famR_none hl' (decide_eq_false (by simp)), by unfold offS; rw [updS_self]; rfl⟩), trivial⟩
    · refine ⟨.inl ⟨_, _, famR_look hl' hm (decide_eq_true e), hH m hm, rfl, ?_⟩, trivial⟩
      unfold offS
      rw [updS_ne e]; exact .keepA
theorem SubS.outI {st : ASt} {n : Nat} {s : List (Nat × AV)} {A : List (Nat × AO)} {F : FS} {v : Nat × List Int} (x : Nat) (UA : List (Nat × Nat)) (hi : injR UA = true) (hk : keysIn UA (keysL A) = true) (hl : low UA = true) (hr : (UA.all fun q => Nat.ble (q.2 + 1) 150) = true) (hn : n = st.nt)
    (hH : HFam 36 st.heap fun m => rowI (offS F x m)) {o : AO} (h150 : st.heap 150 = some o) (ho : OLe st.heap [] (UA ++ famR 36 (hunY x) fun _ => true) o (rowI v)) (hosz : o.sz = 1)
    (hs : AllS st [] (UA ++ famR 36 (hunY x) fun _ => true) s) (hA : AllH st [] (UA ++ famR 36 (hunY x) fun _ => true) A) (hx : st.x = X0 := by rfl) : SubS st (mkSt n s (A ++ fam 36 fun m => rowI (updS F x v m))) := by
  simp only [List.all_eq_true] at hr
  have far : ∀ c, Nat.ble (c + 1) 150 = true → c < 200 ∧ c ≠ 150 := fun c h => by have := Nat.le_of_ble_eq_true h; omega
  refine SubS.mkF [] UA (hunY x) (fun _ => true) hi hk hl (fun m k _ _ _ _ h => ?_) (fun q hq m _ _ => ?_) hn hs hA (fun m hm => ?_) hx
  · unfold hunY at h
    by_cases h1 : m = x <;> by_cases h2 : k = x
    · rw [h1, h2]
    · rw [if_pos h1, if_neg h2] at h; omega
    · rw [if_neg h1, if_pos h2] at h; omega
    · rw [if_neg h1, if_neg h2] at h; omega
  · have h1 := far q.2 (hr q hq)
    unfold hunY
    split <;> omega
  · by_cases e : m = x
    · subst e
      exact ⟨.inl ⟨150, o, by rw [famR_look hl hm rfl, show hunY m m = 150 from if_pos rfl], h150, by rw [hosz]; rfl, by rw [updS_self]; exact ho⟩, trivial⟩
    · refine ⟨.inl ⟨200 + m, rowI (offS F x m), by rw [famR_look hl hm rfl, show hunY x m = 200 + m from if_neg e], hH m hm, rfl, ?_⟩, trivial⟩
      rw [updS_ne e]
      unfold offS
      rw [updS_ne e]; exact .keepA
theorem look_hun {UA : List (Nat × Nat)} (hl : low UA = true) : ∀ j, j < 36 → lookL (UA ++ famR 36 hun fun _ => true) (hun j) = some (hun j) := fun _ hj => famR_look hl hj rfl
theorem look_in {UA : List (Nat × Nat)} {x : Nat} (hl : low ((150, 200 + x) :: UA) = true) : ∀ j, j < 36 → lookL (((150, 200 + x) :: UA) ++ famR 36 hun fun m => decide (m ≠ x)) (hunY x j) = some (hun j) := fun j hj => by
  unfold hunY
  by_cases e : j = x
  · subst e; rw [if_pos rfl]; rfl
  · rw [if_neg e]; exact famR_look hl hj (decide_eq_true e)
theorem look_X {UA : List (Nat × Nat)} {x : Nat} (hl : low UA = true) (h150 : lookL UA 150 = some 150) : ∀ j, j < 36 → lookL (UA ++ famR 36 hun fun _ => true) (hunY x j) = some (hunY x j) := fun j hj => by
  unfold hunY
  by_cases e : j = x
  · subst e; rw [if_pos rfl]; exact famR_head h150
  · rw [if_neg e]; exact famR_look hl hj rfl
theorem look_out {UA : List (Nat × Nat)} {x : Nat} (hl : low UA = true) : ∀ j, j < 36 → lookL (UA ++ famR 36 (hunY x) fun _ => true) (hun j) = some (hunY x j) := fun _ hj => famR_look hl hj rfl
/- What a row holds of a bank's cells: -1 where nothing has come. -/
structure RepI (X : List Int) (e : List (Nat × Nat)) : Prop where
  len : X.length = if e = [] then 0 else topO e + 1
  at' : ∀ q ∈ e, X.getD q.1 (-1) = (q.2 : Int)
  no : ∀ o, (∀ q ∈ e, q.1 ≠ o) → X.getD o (-1) = -1
theorem topO_sn (e : List (Nat × Nat)) (q : Nat × Nat) : topO (e ++ [q]) = max (topO e) q.1 := by
  unfold topO
  rw [List.map_append, List.foldl_append]; rfl
theorem RepI.nil : RepI [] [] := ⟨rfl, (fun _ h => by cases h), fun _ _ => rfl⟩
def fillI (X : List Int) (o : Nat) : List Int := X ++ List.replicate (o + 1 - X.length) (-1)
theorem fillI_len (X : List Int) (o : Nat) : (fillI X o).length = max X.length (o + 1) := by unfold fillI; rw [List.length_append, List.length_replicate]; omega
theorem fillI_getD (X : List Int) (o a : Nat) : (fillI X o).getD a (-1) = X.getD a (-1) := by
  unfold fillI
  rw [List.getD_eq_getElem?_getD, List.getD_eq_getElem?_getD]
  by_cases h : a < X.length
  · rw [List.getElem?_append_left h]
  · rw [List.getElem?_append_right (by omega), List.getElem?_replicate, List.getElem?_eq_none (l := X) (by omega)]
    split <;> rfl
theorem getD_setI {V : List Int} {i o : Nat} {w d : Int} (hi : i < V.length) : (V.set i w).getD o d = if o = i then w else V.getD o d := by
  rw [List.getD_eq_getElem?_getD, List.getD_eq_getElem?_getD, List.getElem?_set]
  by_cases h : i = o
  · subst h; rw [if_pos rfl, if_pos rfl, if_pos hi]; rfl
  · rw [if_neg h, if_neg (fun e => h e.symm)]
theorem RepI.sn {X : List Int} {e : List (Nat × Nat)} {o w : Nat} (h : RepI X e) (hno : ∀ q ∈ e, q.1 ≠ o) : RepI ((fillI X o).set o w) (e ++ [(o, w)]) := by
  have hl := fillI_len X o
  have ho : o < (fillI X o).length := by omega
  refine ⟨?_, fun q hq => ?_, fun a ha => ?_⟩
  · rw [List.length_set, hl, if_neg (by simp), topO_sn, h.len]
    by_cases he : e = []
    · subst he; rw [if_pos rfl]; show max 0 (o + 1) = max 0 o + 1; omega
    · rw [if_neg he]; show max (topO e + 1) (o + 1) = max (topO e) o + 1; omega
  · rw [getD_setI ho]
    rcases List.mem_append.mp hq with hq | hq
    · rw [if_neg (hno q hq), fillI_getD]; exact h.at' q hq
    · rw [List.mem_singleton] at hq; subst hq; rw [if_pos rfl]
  · rw [getD_setI ho]
    have h1 : a ≠ o := fun e1 => ha (o, w) (by simp) e1.symm
    rw [if_neg h1, fillI_getD]
    exact h.no a fun q hq => ha q (List.mem_append_left _ hq)
theorem RepI.words {X : List Int} {e : List (Nat × Nat)} (h : RepI X e) (he : e ≠ []) : X.map (fun x => (max 0 x).toNat) = wordsO e := by
  have hg : ∀ o, (X.map fun x => (max 0 x).toNat).getD o 0 = (max 0 (X.getD o (-1))).toNat := fun o => by
    rw [List.getD_eq_getElem?_getD, List.getD_eq_getElem?_getD, List.getElem?_map]
    cases X[o]? <;> rfl
  refine words_of (by rw [List.length_map, h.len, if_neg he]) (fun q hq => ?_) fun o ho => ?_
  · rw [hg, h.at' q hq]; omega
  · rw [hg, h.no o ho]; rfl
theorem RepI.bound {X : List Int} {e : List (Nat × Nat)} (h : RepI X e) (hb : ∀ q ∈ e, q.2 < 32768) (o : Nat) : X.getD o (-1) < 32768 := by
  by_cases hq : ∃ q ∈ e, q.1 = o
  · obtain ⟨q, hq, rfl⟩ := hq
    rw [h.at' q hq]
    have := hb q hq; omega
  · rw [h.no o fun q hm e1 => hq ⟨q, hm, e1⟩]; decide
theorem RepI.empty {X : List Int} {e : List (Nat × Nat)} (h : RepI X e) : X.length = 0 ↔ e = [] := by
  rw [h.len]
  by_cases he : e = []
  · rw [if_pos he]; exact ⟨fun _ => he, fun _ => rfl⟩
  · rw [if_neg he]; exact ⟨fun h => absurd h (by omega), fun h => absurd h he⟩
end Go.Proofs.Ytioccpodnkllfaa

namespace Go.Proofs.Ytioccpodnkllfaa
open Go Go.AM
attribute [local irreducible] AWP CallK PureCall SubS HeapCall HeapCallP HeapCallK
def oO (l : List (Int × Nat)) (E z n : Nat) (f : Nat → Nat → PV) : AO := ⟨25, 0, 2, 1, fun _ j => getL [.pv (cellsP l), .pv (.seq E z n f)] j⟩
theorem oLe {H : Heap} {B : List Nat} {U : List (Nat × Nat)} {o : AO} {l : List (Int × Nat)} {E z n : Nat} {f : Nat → Nat → PV} (e1 : o.E = 25) (e2 : o.gen = 0) (e3 : o.sz = 2) (e4 : o.n = 1) (h0 : VLe H B U (o.f 0 0) (.pv (cellsP l))) (h1 : VLe H B U (o.f 0 1) (.pv (.seq E z n f))) : OLe H B U o (oO l E z n f) :=
  ⟨e1.symm, e2.symm, e3.symm, Nat.le_of_eq e4.symm, fun i j hi hj => by
    have hi0 : i = 0 := Nat.lt_one_iff.mp hi
    subst hi0
    rw [e3] at hj
    match j, hj with
    | 0, _ => exact h0
    | 1, _ => exact h1⟩
theorem valX {ti : TI} {n : Nat} {F : FS} {v : Nat × List Int} (h1 : ti.size = 1) (h2 : ti.kind.agg = false) : valueOf ti (fun j => (arrX (hunY n) (updS F n v)).f 0 (0 + ((n : Nat) : Int).toNat * ti.size + j)) = .row 150 v.1 1 0 v.2.length := by
  have e : 0 + ((n : Nat) : Int).toNat * ti.size + 0 = n := by rw [h1]; omega
  unfold valueOf
  rw [h2]
  show AV.row (hunY n (0 + ((n : Nat) : Int).toNat * ti.size + 0)) (updS F n v (0 + ((n : Nat) : Int).toNat * ti.size + 0)).1 1 0 (updS F n v (0 + ((n : Nat) : Int).toNat * ti.size + 0)).2.length = _
  rw [e, updS_self, show hunY n n = 150 from if_pos rfl]
theorem arr_set {o : AO} {F : FS} {n idx : Nat} {v v2 : Nat × List Int} {gL L : Nat} (hidx : idx = n) (hg : gL = v2.1) (hL : L = v2.2.length) (hf : o.f = setCells (arrX (hunY n) (updS F n v)).f 0 idx 1 fun _ => .row 150 gL 1 0 L) : ∀ j, j < 36 → o.f 0 j = .row (hunY n j) (updS F n v2 j).1 1 0 (updS F n v2 j).2.length := fun j _ => by
  subst hidx hg hL
  rw [hf]
  unfold setCells
  by_cases e : j = idx
  · subst e
    have h1 : Nat.ble j j = true := Nat.ble_eq_true_of_le (Nat.le_refl _)
    have h2 : Nat.ble (j + 1) (j + 1) = true := Nat.ble_eq_true_of_le (Nat.le_refl _)
    rw [h1, h2, updS_self, show hunY j j = 150 from if_pos rfl]
    rfl
  · have h1 : (Nat.ble idx j && Nat.ble (j + 1) (idx + 1)) = false := by
      rw [Bool.and_eq_false_iff]
      by_cases h : idx ≤ j
      · right; rw [← Bool.not_eq_true, Nat.ble_eq]; omega
      · left; rw [← Bool.not_eq_true, Nat.ble_eq]; omega
    rw [h1, updS_ne e, show (arrX (hunY idx) (updS F idx v)).f 0 j = .row (hunY idx j) (updS F idx v j).1 1 0 (updS F idx v j).2.length from rfl, updS_ne e]
    rfl
theorem OLe.setI {H : Heap} {B : List Nat} {U : List (Nat × Nat)} {V : List Int} {o : AO} {g i : Nat} {w : Int} {gv : Nat → AV} (e1 : o.E = 3) (e2 : o.gen = g) (e3 : o.sz = 1) (e4 : o.n = V.length) (hf : o.f = setCells (rowA 3 1 icl 0 g V).f i 0 1 gv) (h : VLe H B U (gv 0) (.pv (icl w 0))) (hi : i < V.length) : OLe H B U o (rowI (g, V.set i w)) :=
  ⟨e1.symm, e2.symm, e3.symm, by show (V.set i w).length ≤ o.n; rw [List.length_set, e4]; exact Nat.le_refl _, fun a b _ hb => by
    rw [e3] at hb
    have hb0 : b = 0 := Nat.lt_one_iff.mp hb
    subst hb0
    rw [hf]
    have e5 : (rowI (g, V.set i w)).f a 0 = .pv (icl ((V.set i w).getD a 0) 0) := rfl
    rw [e5, getD_setI hi]
    unfold setCells
    by_cases e : a = i
    · subst e; rw [Nat.beq_refl, if_pos rfl]; exact h
    · rw [beqN_ne e, if_neg e]; exact .same⟩
/-- The same, when nothing is written any more. -/
def arrZ (V : Nat → List Int) : AO := ⟨74, 0, 36, 1, fun _ j => .pv (sqA 3 1 icl 0 (V j))⟩
theorem arrZ_keep {H : Heap} {B : List Nat} {U : List (Nat × Nat)} {V : Nat → List Int} : OLe H B U (arrZ V) (arrZ V) := ⟨rfl, rfl, rfl, Nat.le_refl _, fun _ _ _ _ => .same⟩
def fam200 : List Nat := (List.range 36).map (200 + ·)
theorem fam200_in {j : Nat} (h : j < 36) : memN (200 + j) fam200 = true := memN_iff.mpr (List.mem_map.mpr ⟨j, List.mem_range.mpr h, rfl⟩)
def outK (P : List (Nat × Nat)) (k : Nat) : List BankR := ((List.range k).filter fun n => decide (n ∈ nums P)).map fun n : Nat => ⟨(n : Int), wordsO (inn P n)⟩
theorem outK_sn (P : List (Nat × Nat)) (k : Nat) : outK P (k + 1) = outK P k ++ (if k ∈ nums P then [⟨(k : Int), wordsO (inn P k)⟩] else []) := by
  unfold outK
  rw [List.range_succ, List.filter_append, List.map_append]
  by_cases h : k ∈ nums P
  · rw [if_pos h, List.filter_cons, if_pos (by simpa using h)]; rfl
  · rw [if_neg h, List.filter_cons, if_neg (by simpa using h)]; rfl
theorem outK_len (P : List (Nat × Nat)) (k : Nat) : (outK P k).length ≤ k := by
  unfold outK
  rw [List.length_map]
  exact Nat.le_trans (List.length_filter_le _ _) (by rw [List.length_range]; exact Nat.le_refl _)
set_option maxHeartbeats 4000000 in
theorem f17 (l : List (Int × Nat)) (hl : CellsOk l) (hl2 : l.length ≤ 3000) (E z m0 : Nat) (f : Nat → Nat → PV) : PureCall Try.prog 17 [objA l E z m0 f] (objT (objR l)) := by
  have hlen := hl.1
  refine PureCall.body tab_ok (by kernel_rfl) Try.func17 rfl rfl rfl ?_
  refine awp_piece tab_ok mixed ?_
  conv => whnf
  repeat (first | ((with_reducible first | apply ga | apply gb | apply gc | apply gd | apply ge | apply gf | apply gg | apply gh | apply gi | apply gj); conv => whnf) | (refine ⟨⟨rfl, rfl, nle rfl, nle rfl⟩, ?_⟩; conv => whnf) | (refine AD.plain rfl ?_; conv => whnf) | fail)
  refine awp_piece tab_ok mixed ?_
  conv => whnf
  repeat (first | ((with_reducible first | apply ga | apply gb | apply gc | apply gd | apply ge | apply gf | apply gg | apply gh | apply gi | apply gj); conv => whnf) | (refine ⟨⟨rfl, rfl, nle rfl, nle rfl⟩, ?_⟩; conv => whnf) | (refine AD.plain rfl ?_; conv => whnf) | fail)
  refine awp_cut (α := FS) (fun F => mkSt 111 [(4, .ptr 4 0 36 0 0)] ([(4, arrX hun F)] ++ fam 36 fun m => rowI (F m))) (fun F => scanE l [] = 0 ∧ (l.map natC).all (fun c => decide (c.1 < 36864 ∧ c.2 < 32768)) = true ∧ ∀ m, m < 36 → RepI (F m).2 (inn (l.map natC) m)) (fun K hK => ?_) ?_
  · refine awp_piece tab_ok mixed ?_
    conv => whnf
    repeat (first | ((with_reducible first | apply ga | apply gb | apply gc | apply gd | apply ge | apply gf | apply gg | apply gh | apply gi | apply gj); conv => whnf) | (refine ⟨⟨rfl, rfl, nle rfl, nle rfl⟩, ?_⟩; conv => whnf) | (refine AD.plain rfl ?_; conv => whnf) | fail)
    refine awp_block (awp_loopI (fun x : Nat × FS => (x.1 ≤ l.length ∧ scanE l [] = scanE (l.drop x.1) (((l.take x.1).map natC).map (·.1))) ∧ ((l.take x.1).map natC).all (fun c => decide (c.1 < 36864 ∧ c.2 < 32768)) = true ∧ ∀ m, m < 36 → RepI (x.2 m).2 (inn ((l.take x.1).map natC) m))
      (fun x => mkSt 111 [(1, .ptr 1 0 2 0 0), (4, .ptr 4 0 36 0 0), (5, i64 x.1)] ([(1, oO l E z m0 f), (4, arrX hun x.2)] ++ fam 36 fun m => rowI (x.2 m))) (fun x => l.length - x.1) (0, fun _ => (0, [])) ⟨⟨Nat.zero_le _, rfl⟩, rfl, fun _ _ => RepI.nil⟩
      (SubS.mkF [] [(1, 1), (4, 4)] id (fun _ => false) rfl rfl rfl (fun _ _ _ _ h => by cases h) (fun _ _ _ _ h => by cases h) rfl ⟨⟨_, rfl, .ptr _ _ _ _ _ _ _ _ _ rfl rfl rfl rfl⟩, ⟨_, rfl, .ptr _ _ _ _ _ _ _ _ _ rfl rfl rfl rfl⟩, ⟨_, rfl, .same⟩, trivial⟩
        ⟨.inl ⟨_, _, rfl, rfl, rfl, oLe rfl rfl rfl rfl .same .same⟩, .inl ⟨_, _, rfl, rfl, rfl, ⟨rfl, rfl, rfl, Nat.le_refl _, fun i j hi hj => ?_⟩⟩, trivial⟩ (fun m hm => ⟨.inr (.inl ⟨famR_none rfl rfl, rfl⟩), trivial⟩)) ?_)
    · exact .void _ _ _
    rintro ⟨k, F⟩ ⟨⟨hk, hI⟩, hA, hR⟩
    dsimp only at hk hI hA hR ⊢
    obtain ⟨p, hp⟩ : ∃ p, (l.take k).map natC = p := ⟨_, rfl⟩
    rw [hp] at hI hA hR
    refine awp_piece tab_ok mixed ?_
    conv => whnf
    repeat (first | ((with_reducible first | apply ga | apply gb | apply gc | apply gd | apply ge | apply gf | apply gg | apply gh | apply gi | apply gj); conv => whnf) | (refine ⟨⟨rfl, rfl, nle rfl, nle rfl⟩, ?_⟩; conv => whnf) | (refine AD.plain rfl ?_; conv => whnf) | fail)
    repeat (refine ⟨⟨rfl, rfl, nle rfl, nle rfl⟩, ?_⟩; conv => whnf)
    repeat (first | ((with_reducible first | apply ga | apply gb | apply gc | apply gd | apply ge | apply gf | apply gg | apply gh | apply gi | apply gj); conv => whnf) | (refine ⟨⟨rfl, rfl, nle rfl, nle rfl⟩, ?_⟩; conv => whnf) | (refine AD.plain rfl ?_; conv => whnf) | fail)
    refine ⟨fun hc => ?_, fun hc => ?_⟩ <;> replace hc := nm hc <;> (try rw [Int.toNat_zero] at hc) <;> (try rw [Int.toNat_one] at hc)
    · have hlt : k < l.length := by omega
      obtain ⟨c, hce⟩ : ∃ c, l.getD k (0, 0) = c := ⟨_, rfl⟩
      have hcm : c ∈ l := by rw [← hce, List.getD_eq_getElem?_getD, List.getElem?_eq_getElem hlt]; exact List.getElem_mem hlt
      obtain ⟨hc1, hc2⟩ := hl.2 c hcm
      unfold inI64 at hc1
      rw [drop_getD (d := (0, 0)) hlt, hce, scanE] at hI
      have hbad : ∀ e : Int, scanE l [] = e → e ≠ 0 → objR l = ([], e) := fun e h1 h2 => by unfold objR; rw [h1, if_pos h2]
      have hp' : (l.take (k + 1)).map natC = p ++ [natC c] := by rw [take_sn (d := (0, 0)) hlt, List.map_append, hp, hce]; rfl
      conv => whnf
      repeat (first | ((with_reducible first | apply ga | apply gb | apply gc | apply gd | apply ge | apply gf | apply gg | apply gh | apply gi | apply gj); conv => whnf) | (refine ⟨⟨rfl, rfl, nle rfl, nle rfl⟩, ?_⟩; conv => whnf) | (refine AD.plain rfl ?_; conv => whnf) | fail)
      refine awp_cut (α := FS) (fun F => mkSt 111 [(1, .ptr 1 0 2 0 0), (4, .ptr 4 0 36 0 0), (5, i64 k)] ([(1, oO l E z m0 f), (4, arrX hun F)] ++ fam 36 fun m => rowI (F m)))
        (fun F => scanE l [] = scanE (l.drop (k + 1)) ((p ++ [natC c]).map (·.1)) ∧ (p ++ [natC c]).all (fun c => decide (c.1 < 36864 ∧ c.2 < 32768)) = true ∧ ∀ m, m < 36 → RepI (F m).2 (inn (p ++ [natC c]) m)) (fun K' hK' => awp_block ?_) ?_
      · refine awp_pieceM tab_ok mixed (mkSt 111 [(1, .ptr 1 0 2 0 0), (4, .ptr 4 0 36 0 0), (5, i64 k), (6, .ptr 6 0 2 0 0)] ([(1, oO l E z m0 f), (4, arrX hun F), (6, cO c)] ++ fam 36 fun m => rowI (F m))) True (fun K1 hK1 => ?_) fun _ => ?_
        · conv => whnf
          repeat (first | ((with_reducible first | apply ga | apply gb | apply gc | apply gd | apply ge | apply gf | apply gg | apply gh | apply gi | apply gj); conv => whnf) | (refine ⟨⟨rfl, rfl, nle rfl, nle rfl⟩, ?_⟩; conv => whnf) | (refine AD.plain rfl ?_; conv => whnf) | fail)
          repeat (refine ⟨⟨rfl, rfl, nle rfl, nle rfl⟩, ?_⟩; conv => whnf)
          repeat (first | ((with_reducible first | apply ga | apply gb | apply gc | apply gd | apply ge | apply gf | apply gg | apply gh | apply gi | apply gj); conv => whnf) | (refine ⟨⟨rfl, rfl, nle rfl, nle rfl⟩, ?_⟩; conv => whnf) | (refine AD.plain rfl ?_; conv => whnf) | fail)
          refine ⟨⟨by omega, by omega, rfl⟩, ?_⟩
          conv => whnf
          repeat (first | ((with_reducible first | apply ga | apply gb | apply gc | apply gd | apply ge | apply gf | apply gg | apply gh | apply gi | apply gj); conv => whnf) | (refine ⟨⟨rfl, rfl, nle rfl, nle rfl⟩, ?_⟩; conv => whnf) | (refine AD.plain rfl ?_; conv => whnf) | fail)
          refine ⟨⟨by decide⟩, ?_⟩
          conv => whnf
          repeat (first | ((with_reducible first | apply ga | apply gb | apply gc | apply gd | apply ge | apply gf | apply gg | apply gh | apply gi | apply gj); conv => whnf) | (refine ⟨⟨rfl, rfl, nle rfl, nle rfl⟩, ?_⟩; conv => whnf) | (refine AD.plain rfl ?_; conv => whnf) | fail)
          repeat (refine ⟨⟨rfl, rfl, nle rfl, nle rfl⟩, ?_⟩; conv => whnf)
          repeat (first | ((with_reducible first | apply ga | apply gb | apply gc | apply gd | apply ge | apply gf | apply gg | apply gh | apply gi | apply gj); conv => whnf) | (refine ⟨⟨rfl, rfl, nle rfl, nle rfl⟩, ?_⟩; conv => whnf) | (refine AD.plain rfl ?_; conv => whnf) | fail)
          refine hK1 _ trivial (SubS.keepI [(1, 1), (4, 4), (6, 6)] rfl rfl rfl rfl rfl (.upd (.upd (.base rfl) rfl) rfl) ⟨⟨_, rfl, .ptr _ _ _ _ _ _ _ _ _ rfl rfl rfl rfl⟩, ⟨_, rfl, .ptr _ _ _ _ _ _ _ _ _ rfl rfl rfl rfl⟩, ⟨_, rfl, .same⟩, ⟨_, rfl, .ptr _ _ _ _ _ _ _ _ _ rfl rfl rfl rfl⟩, trivial⟩
            ⟨.inl ⟨_, _, rfl, rfl, rfl, oLe rfl rfl rfl rfl .same .same⟩, .inl ⟨_, _, rfl, rfl, rfl, arr_le rfl rfl rfl rfl (fun _ _ => rfl) (look_hun rfl) (fun _ _ => rfl)⟩, .inl ⟨_, _, rfl, rfl, rfl, cLe rfl rfl rfl rfl ?_ ?_⟩, trivial⟩)
          · rw [← hce]; exact .same
          · rw [← hce]; exact .same
        · refine awp_pieceM tab_ok mixed (mkSt 111 [(1, .ptr 1 0 2 0 0), (4, .ptr 4 0 36 0 0), (5, i64 k), (6, .ptr 6 0 2 0 0)] ([(1, oO l E z m0 f), (4, arrX hun F), (6, cO c)] ++ fam 36 fun m => rowI (F m))) (0 ≤ c.1 ∧ c.1 ≤ 36863 ∧ c.2 ≤ 32767) (fun K1 hK1 => ?_) fun hok => ?_
          · conv => whnf
            repeat (first | ((with_reducible first | apply ga | apply gb | apply gc | apply gd | apply ge | apply gf | apply gg | apply gh | apply gi | apply gj); conv => whnf) | (refine ⟨⟨rfl, rfl, nle rfl, nle rfl⟩, ?_⟩; conv => whnf) | (refine AD.plain rfl ?_; conv => whnf) | fail)
            repeat (refine ⟨⟨rfl, rfl, nle rfl, nle rfl⟩, ?_⟩; conv => whnf)
            repeat (first | ((with_reducible first | apply ga | apply gb | apply gc | apply gd | apply ge | apply gf | apply gg | apply gh | apply gi | apply gj); conv => whnf) | (refine ⟨⟨rfl, rfl, nle rfl, nle rfl⟩, ?_⟩; conv => whnf) | (refine AD.plain rfl ?_; conv => whnf) | fail)
            refine ⟨fun hb1 => ?_, fun hb1 => ?_⟩ <;> replace hb1 := nm hb1 <;> (try rw [Int.toNat_zero] at hb1) <;> (try rw [Int.toNat_one] at hb1)
            · conv => whnf
              repeat (first | ((with_reducible first | apply ga | apply gb | apply gc | apply gd | apply ge | apply gf | apply gg | apply gh | apply gi | apply gj); conv => whnf) | (refine ⟨⟨rfl, rfl, nle rfl, nle rfl⟩, ?_⟩; conv => whnf) | (refine AD.plain rfl ?_; conv => whnf) | fail)
              repeat (refine ⟨⟨rfl, rfl, nle rfl, nle rfl⟩, ?_⟩; conv => whnf)
              repeat (first | ((with_reducible first | apply ga | apply gb | apply gc | apply gd | apply ge | apply gf | apply gg | apply gh | apply gi | apply gj); conv => whnf) | (refine ⟨⟨rfl, rfl, nle rfl, nle rfl⟩, ?_⟩; conv => whnf) | (refine AD.plain rfl ?_; conv => whnf) | fail)
              refine ⟨fun hb2 => ?_, fun hb2 => ?_⟩ <;> replace hb2 := nm hb2 <;> (try rw [Int.toNat_zero] at hb2) <;> (try rw [Int.toNat_one] at hb2)
              · conv => whnf
                repeat (first | ((with_reducible first | apply ga | apply gb | apply gc | apply gd | apply ge | apply gf | apply gg | apply gh | apply gi | apply gj); conv => whnf) | (refine ⟨⟨rfl, rfl, nle rfl, nle rfl⟩, ?_⟩; conv => whnf) | (refine AD.plain rfl ?_; conv => whnf) | fail)
                repeat (refine ⟨⟨rfl, rfl, nle rfl, nle rfl⟩, ?_⟩; conv => whnf)
                repeat (first | ((with_reducible first | apply ga | apply gb | apply gc | apply gd | apply ge | apply gf | apply gg | apply gh | apply gi | apply gj); conv => whnf) | (refine ⟨⟨rfl, rfl, nle rfl, nle rfl⟩, ?_⟩; conv => whnf) | (refine AD.plain rfl ?_; conv => whnf) | fail)
                refine ⟨fun hb3 => ?_, fun hb3 => ?_⟩ <;> replace hb3 := nm hb3 <;> (try rw [Int.toNat_zero] at hb3) <;> (try rw [Int.toNat_one] at hb3)
                · conv => whnf
                  repeat (first | ((with_reducible first | apply ga | apply gb | apply gc | apply gd | apply ge | apply gf | apply gg | apply gh | apply gi | apply gj); conv => whnf) | (refine ⟨⟨rfl, rfl, nle rfl, nle rfl⟩, ?_⟩; conv => whnf) | (refine AD.plain rfl ?_; conv => whnf) | fail)
                  rw [hbad 3 (by rw [hI, if_pos (show badC c by unfold badC; omega)]) (by decide)]
                  exact done_tup [.pv (banksP []), i64 3] [] rfl ⟨VLe.nilA, .same, trivial⟩
                · conv => whnf
                  repeat (first | ((with_reducible first | apply ga | apply gb | apply gc | apply gd | apply ge | apply gf | apply gg | apply gh | apply gi | apply gj); conv => whnf) | (refine ⟨⟨rfl, rfl, nle rfl, nle rfl⟩, ?_⟩; conv => whnf) | (refine AD.plain rfl ?_; conv => whnf) | fail)
                  exact hK1 _ (by omega) (SubS.keepI [(1, 1), (4, 4), (6, 6)] rfl rfl rfl rfl rfl (.base rfl) ⟨⟨_, rfl, .ptr _ _ _ _ _ _ _ _ _ rfl rfl rfl rfl⟩, ⟨_, rfl, .ptr _ _ _ _ _ _ _ _ _ rfl rfl rfl rfl⟩, ⟨_, rfl, .same⟩, ⟨_, rfl, .ptr _ _ _ _ _ _ _ _ _ rfl rfl rfl rfl⟩, trivial⟩
                    ⟨.inl ⟨_, _, rfl, rfl, rfl, oLe rfl rfl rfl rfl .same .same⟩, .inl ⟨_, _, rfl, rfl, rfl, arr_le rfl rfl rfl rfl (fun _ _ => rfl) (look_hun rfl) (fun _ _ => rfl)⟩, .inl ⟨_, _, rfl, rfl, rfl, cLe rfl rfl rfl rfl .same .same⟩, trivial⟩)
              · conv => whnf
                repeat (first | ((with_reducible first | apply ga | apply gb | apply gc | apply gd | apply ge | apply gf | apply gg | apply gh | apply gi | apply gj); conv => whnf) | (refine ⟨⟨rfl, rfl, nle rfl, nle rfl⟩, ?_⟩; conv => whnf) | (refine AD.plain rfl ?_; conv => whnf) | fail)
                rw [hbad 3 (by rw [hI, if_pos (show badC c by unfold badC; omega)]) (by decide)]
                exact done_tup [.pv (banksP []), i64 3] [] rfl ⟨VLe.nilA, .same, trivial⟩
            · conv => whnf
              repeat (first | ((with_reducible first | apply ga | apply gb | apply gc | apply gd | apply ge | apply gf | apply gg | apply gh | apply gi | apply gj); conv => whnf) | (refine ⟨⟨rfl, rfl, nle rfl, nle rfl⟩, ?_⟩; conv => whnf) | (refine AD.plain rfl ?_; conv => whnf) | fail)
              rw [hbad 3 (by rw [hI, if_pos (show badC c by unfold badC; omega)]) (by decide)]
              exact done_tup [.pv (banksP []), i64 3] [] rfl ⟨VLe.nilA, .same, trivial⟩
          · have hnb : ¬ badC c := by unfold badC; omega
            rw [if_neg hnb] at hI
            obtain ⟨a, ha⟩ : ∃ a, c.1.toNat = a := ⟨_, rfl⟩
            have hca : c.1 = (a : Int) := by omega
            have hnc : natC c = (a, c.2) := by unfold natC; rw [ha]
            rw [ha] at hI
            rw [hnc] at hK'
            have hq : c.1.tdiv 1024 = ((a / 1024 : Nat) : Int) := by rw [hca]; rfl
            have hr : c.1.tmod 1024 = ((a % 1024 : Nat) : Int) := by rw [hca]; rfl
            have hn36 : a / 1024 < 36 := by omega
            have ho24 : a % 1024 < 1024 := Nat.mod_lt _ (by decide)
            obtain ⟨n, hn⟩ : ∃ n, a / 1024 = n := ⟨_, rfl⟩
            obtain ⟨o, ho⟩ : ∃ o, a % 1024 = o := ⟨_, rfl⟩
            rw [hn] at hq hn36
            rw [ho] at hr ho24
            refine awp_pieceM tab_ok mixed (mkSt 111 [(1, .ptr 1 0 2 0 0), (4, .ptr 4 0 36 0 0), (5, i64 k), (6, .ptr 6 0 2 0 0), (7, i64 n)] ([(1, oO l E z m0 f), (4, arrX (hunY n) (updS F n (F n))), (150, rowI (F n)), (6, cO c)] ++ fam 36 fun m => rowI (offS F n m))) True (fun K1 hK1 => ?_) fun _ => ?_
            · conv => whnf
              repeat (first | ((with_reducible first | apply ga | apply gb | apply gc | apply gd | apply ge | apply gf | apply gg | apply gh | apply gi | apply gj); conv => whnf) | (refine ⟨⟨rfl, rfl, nle rfl, nle rfl⟩, ?_⟩; conv => whnf) | (refine AD.plain rfl ?_; conv => whnf) | fail)
              repeat (refine ⟨⟨rfl, rfl, nle rfl, nle rfl⟩, ?_⟩; conv => whnf)
              repeat (first | ((with_reducible first | apply ga | apply gb | apply gc | apply gd | apply ge | apply gf | apply gg | apply gh | apply gi | apply gj); conv => whnf) | (refine ⟨⟨rfl, rfl, nle rfl, nle rfl⟩, ?_⟩; conv => whnf) | (refine AD.plain rfl ?_; conv => whnf) | fail)
              refine ⟨⟨by decide, by rw [hq]; unfold inI64; omega⟩, ?_⟩
              conv => whnf
              repeat (first | ((with_reducible first | apply ga | apply gb | apply gc | apply gd | apply ge | apply gf | apply gg | apply gh | apply gi | apply gj); conv => whnf) | (refine ⟨⟨rfl, rfl, nle rfl, nle rfl⟩, ?_⟩; conv => whnf) | (refine AD.plain rfl ?_; conv => whnf) | fail)
              refine hK1 _ trivial (SubS.inI n [(1, 1), (4, 4), (6, 6)] rfl rfl rfl rfl rfl (.base rfl) ⟨⟨_, rfl, .ptr _ _ _ _ _ _ _ _ _ rfl rfl rfl rfl⟩, ⟨_, rfl, .ptr _ _ _ _ _ _ _ _ _ rfl rfl rfl rfl⟩, ⟨_, rfl, .same⟩, ⟨_, rfl, .ptr _ _ _ _ _ _ _ _ _ rfl rfl rfl rfl⟩, ⟨_, rfl, VLe.int hq⟩, trivial⟩
                ⟨.inl ⟨_, _, rfl, rfl, rfl, oLe rfl rfl rfl rfl .same .same⟩, .inl ⟨_, _, rfl, rfl, rfl, arr_le rfl rfl rfl rfl (fun _ _ => rfl) (look_in rfl) (fun j _ => ?_)⟩, .inl ⟨200 + n, rowI (F n), rfl, HFam.base rfl n hn36, rfl, .keepA⟩, .inl ⟨_, _, rfl, rfl, rfl, cLe rfl rfl rfl rfl .same .same⟩, trivial⟩)
              by_cases e : j = n
              · subst e; exact updS_self
              · exact updS_ne e
            · -- the row is made long enough
              refine awp_cut (α := Nat × List Int) (fun v => mkSt 111 [(1, .ptr 1 0 2 0 0), (4, .ptr 4 0 36 0 0), (5, i64 k), (6, .ptr 6 0 2 0 0), (7, i64 n)] ([(1, oO l E z m0 f), (4, arrX (hunY n) (updS F n v)), (150, rowI v), (6, cO c)] ++ fam 36 fun m => rowI (offS F n m)))
                (fun v => v.2 = fillI (F n).2 o) (fun K1 hK1 => awp_block (awp_loopI (fun v : Nat × List Int => ∃ t, v.2 = (F n).2 ++ List.replicate t (-1) ∧ (t = 0 ∨ v.2.length ≤ o + 1))
                (fun v => mkSt 111 [(1, .ptr 1 0 2 0 0), (4, .ptr 4 0 36 0 0), (5, i64 k), (6, .ptr 6 0 2 0 0), (7, i64 n)] ([(1, oO l E z m0 f), (4, arrX (hunY n) (updS F n v)), (150, rowI v), (6, cO c)] ++ fam 36 fun m => rowI (offS F n m))) (fun v => o + 1 - v.2.length) (F n) ⟨0, by simp, .inl rfl⟩
                (SubS.keepI [(1, 1), (4, 4), (150, 150), (6, 6)] rfl rfl rfl rfl rfl (.base rfl) ⟨⟨_, rfl, .ptr _ _ _ _ _ _ _ _ _ rfl rfl rfl rfl⟩, ⟨_, rfl, .ptr _ _ _ _ _ _ _ _ _ rfl rfl rfl rfl⟩, ⟨_, rfl, .same⟩, ⟨_, rfl, .ptr _ _ _ _ _ _ _ _ _ rfl rfl rfl rfl⟩, ⟨_, rfl, .same⟩, trivial⟩
                    ⟨.inl ⟨_, _, rfl, rfl, rfl, oLe rfl rfl rfl rfl .same .same⟩, .inl ⟨_, _, rfl, rfl, rfl, arr_le rfl rfl rfl rfl (fun _ _ => rfl) (look_X rfl rfl) (fun _ _ => rfl)⟩, .inl ⟨_, _, rfl, rfl, rfl, .keepA⟩, .inl ⟨_, _, rfl, rfl, rfl, cLe rfl rfl rfl rfl .same .same⟩, trivial⟩) ?_)) ?_
              · rintro ⟨g, X⟩ ⟨t, hX, ht⟩
                dsimp only at hX ht ⊢
                refine awp_piece tab_ok mixed (ex_sq (ex_drawn (by kernel_rfl) ?_))
                repeat (first | ((with_reducible first | apply ga | apply gb | apply gc | apply gd | apply ge | apply gf | apply gg | apply gh | apply gi | apply gj); conv => whnf) | (refine ⟨⟨rfl, rfl, nle rfl, nle rfl⟩, ?_⟩; conv => whnf) | (refine AD.plain rfl ?_; conv => whnf) | (refine AD.on rfl rfl rfl ?_; conv => whnf) | (refine AD.off rfl rfl rfl ?_; conv => whnf) | fail)
                refine ⟨⟨by omega, by omega, by decide⟩, ?_⟩
                conv => whnf
                repeat (first | ((with_reducible first | apply ga | apply gb | apply gc | apply gd | apply ge | apply gf | apply gg | apply gh | apply gi | apply gj); conv => whnf) | (refine ⟨⟨rfl, rfl, nle rfl, nle rfl⟩, ?_⟩; conv => whnf) | (refine AD.plain rfl ?_; conv => whnf) | fail)
                refine ⟨⟨rfl, rfl, Nat.zero_lt_one, by show 0 + ((n : Nat) : Int).toNat * 1 + 1 ≤ 36; omega⟩, ?_⟩
                rw [valX rfl rfl]
                conv => whnf
                repeat (first | ((with_reducible first | apply ga | apply gb | apply gc | apply gd | apply ge | apply gf | apply gg | apply gh | apply gi | apply gj); conv => whnf) | (refine ⟨⟨rfl, rfl, nle rfl, nle rfl⟩, ?_⟩; conv => whnf) | (refine AD.plain rfl ?_; conv => whnf) | (refine AD.on rfl rfl rfl ?_; conv => whnf) | (refine AD.off rfl rfl rfl ?_; conv => whnf) | fail)
                refine ⟨⟨by decide⟩, ?_⟩
                conv => whnf
                repeat (first | ((with_reducible first | apply ga | apply gb | apply gc | apply gd | apply ge | apply gf | apply gg | apply gh | apply gi | apply gj); conv => whnf) | (refine ⟨⟨rfl, rfl, nle rfl, nle rfl⟩, ?_⟩; conv => whnf) | (refine AD.plain rfl ?_; conv => whnf) | fail)
                repeat (first | ((with_reducible first | apply ga | apply gb | apply gc | apply gd | apply ge | apply gf | apply gg | apply gh | apply gi | apply gj); conv => whnf) | (refine ⟨⟨rfl, rfl, nle rfl, nle rfl⟩, ?_⟩; conv => whnf) | (refine AD.plain rfl ?_; conv => whnf) | (refine AD.on rfl rfl rfl ?_; conv => whnf) | (refine AD.off rfl rfl rfl ?_; conv => whnf) | fail)
                refine AD.nil ⟨by kernel_rfl, ?_⟩
                conv => whnf
                repeat (first | ((with_reducible first | apply ga | apply gb | apply gc | apply gd | apply ge | apply gf | apply gg | apply gh | apply gi | apply gj); conv => whnf) | (refine ⟨⟨rfl, rfl, nle rfl, nle rfl⟩, ?_⟩; conv => whnf) | (refine AD.plain rfl ?_; conv => whnf) | fail)
                rw [hr]
                refine ⟨fun hd => ?_, fun hd => ?_⟩ <;> replace hd := nm hd <;> (try rw [Int.toNat_zero] at hd) <;> (try rw [Int.toNat_one] at hd)
                · have hd2 : (X.length : Int) ≤ (o : Int) := hd
                  conv => whnf
                  repeat (first | ((with_reducible first | apply ga | apply gb | apply gc | apply gd | apply ge | apply gf | apply gg | apply gh | apply gi | apply gj); conv => whnf) | (refine ⟨⟨rfl, rfl, nle rfl, nle rfl⟩, ?_⟩; conv => whnf) | (refine AD.plain rfl ?_; conv => whnf) | fail)
                  refine awp_block ?_
                  refine awp_last tab_ok mixed ?_
                  conv => whnf
                  repeat (first | ((with_reducible first | apply ga | apply gb | apply gc | apply gd | apply ge | apply gf | apply gg | apply gh | apply gi | apply gj); conv => whnf) | (refine ⟨⟨rfl, rfl, nle rfl, nle rfl⟩, ?_⟩; conv => whnf) | (refine AD.plain rfl ?_; conv => whnf) | fail)
                  refine ⟨⟨by omega, by omega, by decide⟩, ?_⟩
                  conv => whnf
                  repeat (first | ((with_reducible first | apply ga | apply gb | apply gc | apply gd | apply ge | apply gf | apply gg | apply gh | apply gi | apply gj); conv => whnf) | (refine ⟨⟨rfl, rfl, nle rfl, nle rfl⟩, ?_⟩; conv => whnf) | (refine AD.plain rfl ?_; conv => whnf) | fail)
                  refine ⟨⟨rfl, rfl, Nat.zero_lt_one, by show 0 + ((n : Nat) : Int).toNat * 1 + 1 ≤ 36; omega⟩, ?_⟩
                  rw [valX rfl rfl]
                  conv => whnf
                  repeat (first | ((with_reducible first | apply ga | apply gb | apply gc | apply gd | apply ge | apply gf | apply gg | apply gh | apply gi | apply gj); conv => whnf) | (refine ⟨⟨rfl, rfl, nle rfl, nle rfl⟩, ?_⟩; conv => whnf) | (refine AD.plain rfl ?_; conv => whnf) | fail)
                  refine ⟨⟨⟨rfl, rfl, rfl, nle rfl⟩, rfl, rfl, rfl, rfl, rfl, rfl, by show (X.length + 1) * 8 ≤ _; omega⟩, ?_⟩
                  conv => whnf
                  repeat (first | ((with_reducible first | apply ga | apply gb | apply gc | apply gd | apply ge | apply gf | apply gg | apply gh | apply gi | apply gj); conv => whnf) | (refine ⟨⟨rfl, rfl, nle rfl, nle rfl⟩, ?_⟩; conv => whnf) | (refine AD.plain rfl ?_; conv => whnf) | fail)
                  refine ⟨⟨by omega, by omega, by decide⟩, ?_⟩
                  conv => whnf
                  repeat (first | ((with_reducible first | apply ga | apply gb | apply gc | apply gd | apply ge | apply gf | apply gg | apply gh | apply gi | apply gj); conv => whnf) | (refine ⟨⟨rfl, rfl, nle rfl, nle rfl⟩, ?_⟩; conv => whnf) | (refine AD.plain rfl ?_; conv => whnf) | fail)
                  refine ⟨⟨rfl, rfl, Nat.zero_lt_one, by show 0 + ((n : Nat) : Int).toNat * 1 + 1 ≤ 36; omega⟩, ?_⟩
                  conv => whnf
                  repeat (first | ((with_reducible first | apply ga | apply gb | apply gc | apply gd | apply ge | apply gf | apply gg | apply gh | apply gi | apply gj); conv => whnf) | (refine ⟨⟨rfl, rfl, nle rfl, nle rfl⟩, ?_⟩; conv => whnf) | (refine AD.plain rfl ?_; conv => whnf) | fail)
                  refine ⟨(g + 1, X ++ [-1]), ⟨t + 1, by dsimp only; rw [hX, List.append_assoc, List.replicate_succ'], .inr (by dsimp only; rw [List.length_append]; show X.length + 1 ≤ o + 1; omega)⟩,
                    SubS.keepI [(1, 1), (4, 4), (150, 150), (6, 6)] rfl rfl rfl rfl rfl (.upd (.upd (.upd (.base rfl) rfl) rfl) rfl) ⟨⟨_, rfl, .ptr _ _ _ _ _ _ _ _ _ rfl rfl rfl rfl⟩, ⟨_, rfl, .ptr _ _ _ _ _ _ _ _ _ rfl rfl rfl rfl⟩, ⟨_, rfl, .same⟩, ⟨_, rfl, .ptr _ _ _ _ _ _ _ _ _ rfl rfl rfl rfl⟩, ⟨_, rfl, .same⟩, trivial⟩
                    ⟨.inl ⟨_, _, rfl, rfl, rfl, oLe rfl rfl rfl rfl .same .same⟩, .inl ⟨_, _, rfl, rfl, rfl, arr_le rfl rfl rfl rfl (arr_set (idx := 0 + ((n : Nat) : Int).toNat * 1) (v := (g, X)) (v2 := (g + 1, X ++ [-1])) (gL := g + 1) (L := X.length + 1) (by omega) rfl (by simp) rfl) (look_X rfl rfl) (fun _ _ => rfl)⟩, .inl ⟨_, _, rfl, rfl, rfl, ?_⟩, .inl ⟨_, _, rfl, rfl, rfl, cLe rfl rfl rfl rfl .same .same⟩, trivial⟩, ?_⟩
                  · exact OLe.snocA rfl rfl rfl rfl rfl fun j hj => by
                      have hj0 : j = 0 := Nat.lt_one_iff.mp hj
                      subst hj0
                      exact .same
                  · dsimp only
                    rw [List.length_append]
                    show o + 1 - (X.length + 1) < o + 1 - X.length
                    omega
                · have hd2 : ¬ (X.length : Int) ≤ (o : Int) := fun h => by
                    have hd' : (o : Int) < (X.length : Int) := hd
                    omega
                  conv => whnf
                  repeat (first | ((with_reducible first | apply ga | apply gb | apply gc | apply gd | apply ge | apply gf | apply gg | apply gh | apply gi | apply gj); conv => whnf) | (refine ⟨⟨rfl, rfl, nle rfl, nle rfl⟩, ?_⟩; conv => whnf) | (refine AD.plain rfl ?_; conv => whnf) | fail)
                  refine hK1 _ (g, X) ?_ (SubS.keepI [(1, 1), (4, 4), (150, 150), (6, 6)] rfl rfl rfl rfl rfl (.base rfl) ⟨⟨_, rfl, .ptr _ _ _ _ _ _ _ _ _ rfl rfl rfl rfl⟩, ⟨_, rfl, .ptr _ _ _ _ _ _ _ _ _ rfl rfl rfl rfl⟩, ⟨_, rfl, .same⟩, ⟨_, rfl, .ptr _ _ _ _ _ _ _ _ _ rfl rfl rfl rfl⟩, ⟨_, rfl, .same⟩, trivial⟩
                    ⟨.inl ⟨_, _, rfl, rfl, rfl, oLe rfl rfl rfl rfl .same .same⟩, .inl ⟨_, _, rfl, rfl, rfl, arr_le rfl rfl rfl rfl (fun _ _ => rfl) (look_X rfl rfl) (fun _ _ => rfl)⟩, .inl ⟨_, _, rfl, rfl, rfl, .keepA⟩, .inl ⟨_, _, rfl, rfl, rfl, cLe rfl rfl rfl rfl .same .same⟩, trivial⟩)
                  dsimp only
                  have hXl : X.length = (F n).2.length + t := by rw [hX, List.length_append, List.length_replicate]
                  unfold fillI
                  rw [hX, show o + 1 - (F n).2.length = t by omega]
              · rintro ⟨g, X⟩ hX
                dsimp only at hX
                have hXl : X.length = max (F n).2.length (o + 1) := by rw [hX, fillI_len]
                have hR0 := hR n hn36
                have hX0 : X.getD (0 + ((o : Nat) : Int).toNat) 0 = (F n).2.getD o (-1) := by
                  rw [show 0 + ((o : Nat) : Int).toNat = o by omega, ← fillI_getD (F n).2 o o, ← hX]
                  rw [List.getD_eq_getElem?_getD, List.getD_eq_getElem?_getD, List.getElem?_eq_getElem (by omega)]; rfl
                have hlen1 : (F n).2.length ≤ 1024 := by
                  rw [hR0.len]
                  split
                  · omega
                  · rename_i he
                    obtain ⟨q, hq, hqe⟩ := top_in he
                    have := inn_lt q.1 (List.mem_map.mpr ⟨q, hq, rfl⟩)
                    omega
                refine awp_piece tab_ok mixed (ex_sq (ex_drawn (by kernel_rfl) ?_))
                repeat (first | ((with_reducible first | apply ga | apply gb | apply gc | apply gd | apply ge | apply gf | apply gg | apply gh | apply gi | apply gj); conv => whnf) | (refine ⟨⟨rfl, rfl, nle rfl, nle rfl⟩, ?_⟩; conv => whnf) | (refine AD.plain rfl ?_; conv => whnf) | (refine AD.on rfl rfl rfl ?_; conv => whnf) | (refine AD.off rfl rfl rfl ?_; conv => whnf) | fail)
                refine ⟨⟨by omega, by omega, by decide⟩, ?_⟩
                conv => whnf
                repeat (first | ((with_reducible first | apply ga | apply gb | apply gc | apply gd | apply ge | apply gf | apply gg | apply gh | apply gi | apply gj); conv => whnf) | (refine ⟨⟨rfl, rfl, nle rfl, nle rfl⟩, ?_⟩; conv => whnf) | (refine AD.plain rfl ?_; conv => whnf) | fail)
                refine ⟨⟨rfl, rfl, Nat.zero_lt_one, by show 0 + ((n : Nat) : Int).toNat * 1 + 1 ≤ 36; omega⟩, ?_⟩
                rw [valX rfl rfl]
                conv => whnf
                repeat (first | ((with_reducible first | apply ga | apply gb | apply gc | apply gd | apply ge | apply gf | apply gg | apply gh | apply gi | apply gj); conv => whnf) | (refine ⟨⟨rfl, rfl, nle rfl, nle rfl⟩, ?_⟩; conv => whnf) | (refine AD.plain rfl ?_; conv => whnf) | (refine AD.on rfl rfl rfl ?_; conv => whnf) | (refine AD.off rfl rfl rfl ?_; conv => whnf) | fail)
                refine ⟨⟨by decide⟩, ?_⟩
                conv => whnf
                repeat (first | ((with_reducible first | apply ga | apply gb | apply gc | apply gd | apply ge | apply gf | apply gg | apply gh | apply gi | apply gj); conv => whnf) | (refine ⟨⟨rfl, rfl, nle rfl, nle rfl⟩, ?_⟩; conv => whnf) | (refine AD.plain rfl ?_; conv => whnf) | fail)
                repeat (first | ((with_reducible first | apply ga | apply gb | apply gc | apply gd | apply ge | apply gf | apply gg | apply gh | apply gi | apply gj); conv => whnf) | (refine ⟨⟨rfl, rfl, nle rfl, nle rfl⟩, ?_⟩; conv => whnf) | (refine AD.plain rfl ?_; conv => whnf) | (refine AD.on rfl rfl rfl ?_; conv => whnf) | (refine AD.off rfl rfl rfl ?_; conv => whnf) | fail)
                rw [hr]
                refine ⟨⟨by omega, by show (o : Int) < (X.length : Int); omega, rfl⟩, ?_⟩
                conv => whnf
                repeat (first | ((with_reducible first | apply ga | apply gb | apply gc | apply gd | apply ge | apply gf | apply gg | apply gh | apply gi | apply gj); conv => whnf) | (refine ⟨⟨rfl, rfl, nle rfl, nle rfl⟩, ?_⟩; conv => whnf) | (refine AD.plain rfl ?_; conv => whnf) | fail)
                repeat (first | ((with_reducible first | apply ga | apply gb | apply gc | apply gd | apply ge | apply gf | apply gg | apply gh | apply gi | apply gj); conv => whnf) | (refine ⟨⟨rfl, rfl, nle rfl, nle rfl⟩, ?_⟩; conv => whnf) | (refine AD.plain rfl ?_; conv => whnf) | (refine AD.on rfl rfl rfl ?_; conv => whnf) | (refine AD.off rfl rfl rfl ?_; conv => whnf) | fail)
                refine ⟨⟨rfl, rfl, by show 0 + ((o : Nat) : Int).toNat < X.length; omega, nle rfl⟩, ?_⟩
                conv => whnf
                repeat (first | ((with_reducible first | apply ga | apply gb | apply gc | apply gd | apply ge | apply gf | apply gg | apply gh | apply gi | apply gj); conv => whnf) | (refine ⟨⟨rfl, rfl, nle rfl, nle rfl⟩, ?_⟩; conv => whnf) | (refine AD.plain rfl ?_; conv => whnf) | fail)
                repeat (first | ((with_reducible first | apply ga | apply gb | apply gc | apply gd | apply ge | apply gf | apply gg | apply gh | apply gi | apply gj); conv => whnf) | (refine ⟨⟨rfl, rfl, nle rfl, nle rfl⟩, ?_⟩; conv => whnf) | (refine AD.plain rfl ?_; conv => whnf) | (refine AD.on rfl rfl rfl ?_; conv => whnf) | (refine AD.off rfl rfl rfl ?_; conv => whnf) | fail)
                refine AD.nil ⟨by kernel_rfl, ?_⟩
                conv => whnf
                repeat (first | ((with_reducible first | apply ga | apply gb | apply gc | apply gd | apply ge | apply gf | apply gg | apply gh | apply gi | apply gj); conv => whnf) | (refine ⟨⟨rfl, rfl, nle rfl, nle rfl⟩, ?_⟩; conv => whnf) | (refine AD.plain rfl ?_; conv => whnf) | fail)
                have hwith : ∀ q ∈ inn p n, q.1 = o → (F n).2.getD o (-1) = (q.2 : Int) := fun q hq e => by rw [← e]; exact hR0.at' q hq
                refine ⟨fun hd => ?_, fun hd => ?_⟩ <;> replace hd := nm hd <;> (try rw [Int.toNat_zero] at hd) <;> (try rw [Int.toNat_one] at hd)
                · have hd2 : (0 : Int) ≤ (F n).2.getD o (-1) := by rw [← hX0]; exact hd
                  have hain : a ∈ p.map (·.1) := by
                    refine Classical.byContradiction fun hno => ?_
                    have hno2 : ∀ q ∈ inn p n, q.1 ≠ o := fun q hq e => hno (inn_at.mp ⟨q, by rw [hn]; exact hq, by rw [ho]; exact e⟩)
                    rw [hR0.no o hno2] at hd2
                    exact absurd hd2 (by decide)
                  rw [if_pos hain] at hI
                  conv => whnf
                  repeat (first | ((with_reducible first | apply ga | apply gb | apply gc | apply gd | apply ge | apply gf | apply gg | apply gh | apply gi | apply gj); conv => whnf) | (refine ⟨⟨rfl, rfl, nle rfl, nle rfl⟩, ?_⟩; conv => whnf) | (refine AD.plain rfl ?_; conv => whnf) | fail)
                  rw [hbad 8 hI (by decide)]
                  exact done_tup [.pv (banksP []), i64 8] [] rfl ⟨VLe.nilA, .same, trivial⟩
                · have hd2 : ¬ (0 : Int) ≤ (F n).2.getD o (-1) := fun h => by
                    have hd' : (X.getD (0 + ((o : Nat) : Int).toNat) 0 : Int) < 0 := hd
                    rw [hX0] at hd'; omega
                  have hain : a ∉ p.map (·.1) := fun h => by
                    obtain ⟨q, hq, e⟩ := inn_at.mpr h
                    rw [hn] at hq; rw [ho] at e
                    have := hwith q hq e
                    omega
                  have hno2 : ∀ q ∈ inn p n, q.1 ≠ o := fun q hq e => hain (inn_at.mp ⟨q, by rw [hn]; exact hq, by rw [ho]; exact e⟩)
                  rw [if_neg hain] at hI
                  conv => whnf
                  repeat (first | ((with_reducible first | apply ga | apply gb | apply gc | apply gd | apply ge | apply gf | apply gg | apply gh | apply gi | apply gj); conv => whnf) | (refine ⟨⟨rfl, rfl, nle rfl, nle rfl⟩, ?_⟩; conv => whnf) | (refine AD.plain rfl ?_; conv => whnf) | fail)
                  refine awp_last tab_ok mixed (ex_drawn (by kernel_rfl) ?_)
                  repeat (first | ((with_reducible first | apply ga | apply gb | apply gc | apply gd | apply ge | apply gf | apply gg | apply gh | apply gi | apply gj); conv => whnf) | (refine ⟨⟨rfl, rfl, nle rfl, nle rfl⟩, ?_⟩; conv => whnf) | (refine AD.plain rfl ?_; conv => whnf) | (refine AD.on rfl rfl rfl ?_; conv => whnf) | (refine AD.off rfl rfl rfl ?_; conv => whnf) | fail)
                  refine ⟨⟨by omega, by omega, by decide⟩, ?_⟩
                  conv => whnf
                  repeat (first | ((with_reducible first | apply ga | apply gb | apply gc | apply gd | apply ge | apply gf | apply gg | apply gh | apply gi | apply gj); conv => whnf) | (refine ⟨⟨rfl, rfl, nle rfl, nle rfl⟩, ?_⟩; conv => whnf) | (refine AD.plain rfl ?_; conv => whnf) | fail)
                  refine ⟨⟨rfl, rfl, Nat.zero_lt_one, by show 0 + ((n : Nat) : Int).toNat * 1 + 1 ≤ 36; omega⟩, ?_⟩
                  rw [valX rfl rfl]
                  conv => whnf
                  repeat (first | ((with_reducible first | apply ga | apply gb | apply gc | apply gd | apply ge | apply gf | apply gg | apply gh | apply gi | apply gj); conv => whnf) | (refine ⟨⟨rfl, rfl, nle rfl, nle rfl⟩, ?_⟩; conv => whnf) | (refine AD.plain rfl ?_; conv => whnf) | (refine AD.on rfl rfl rfl ?_; conv => whnf) | (refine AD.off rfl rfl rfl ?_; conv => whnf) | fail)
                  refine ⟨⟨by decide⟩, ?_⟩
                  conv => whnf
                  repeat (first | ((with_reducible first | apply ga | apply gb | apply gc | apply gd | apply ge | apply gf | apply gg | apply gh | apply gi | apply gj); conv => whnf) | (refine ⟨⟨rfl, rfl, nle rfl, nle rfl⟩, ?_⟩; conv => whnf) | (refine AD.plain rfl ?_; conv => whnf) | fail)
                  repeat (first | ((with_reducible first | apply ga | apply gb | apply gc | apply gd | apply ge | apply gf | apply gg | apply gh | apply gi | apply gj); conv => whnf) | (refine ⟨⟨rfl, rfl, nle rfl, nle rfl⟩, ?_⟩; conv => whnf) | (refine AD.plain rfl ?_; conv => whnf) | (refine AD.on rfl rfl rfl ?_; conv => whnf) | (refine AD.off rfl rfl rfl ?_; conv => whnf) | fail)
                  rw [hr]
                  refine ⟨⟨by omega, by show (o : Int) < (X.length : Int); omega, rfl⟩, ?_⟩
                  conv => whnf
                  repeat (first | ((with_reducible first | apply ga | apply gb | apply gc | apply gd | apply ge | apply gf | apply gg | apply gh | apply gi | apply gj); conv => whnf) | (refine ⟨⟨rfl, rfl, nle rfl, nle rfl⟩, ?_⟩; conv => whnf) | (refine AD.plain rfl ?_; conv => whnf) | fail)
                  repeat (first | ((with_reducible first | apply ga | apply gb | apply gc | apply gd | apply ge | apply gf | apply gg | apply gh | apply gi | apply gj); conv => whnf) | (refine ⟨⟨rfl, rfl, nle rfl, nle rfl⟩, ?_⟩; conv => whnf) | (refine AD.plain rfl ?_; conv => whnf) | (refine AD.on rfl rfl rfl ?_; conv => whnf) | (refine AD.off rfl rfl rfl ?_; conv => whnf) | fail)
                  refine ⟨⟨rfl, rfl, by show 0 + ((o : Nat) : Int).toNat < X.length; omega, nle rfl⟩, ?_⟩
                  conv => whnf
                  repeat (first | ((with_reducible first | apply ga | apply gb | apply gc | apply gd | apply ge | apply gf | apply gg | apply gh | apply gi | apply gj); conv => whnf) | (refine ⟨⟨rfl, rfl, nle rfl, nle rfl⟩, ?_⟩; conv => whnf) | (refine AD.plain rfl ?_; conv => whnf) | fail)
                  repeat (first | ((with_reducible first | apply ga | apply gb | apply gc | apply gd | apply ge | apply gf | apply gg | apply gh | apply gi | apply gj); conv => whnf) | (refine ⟨⟨rfl, rfl, nle rfl, nle rfl⟩, ?_⟩; conv => whnf) | (refine AD.plain rfl ?_; conv => whnf) | (refine AD.on rfl rfl rfl ?_; conv => whnf) | (refine AD.off rfl rfl rfl ?_; conv => whnf) | fail)
                  refine AD.nil ⟨by kernel_rfl, ?_⟩
                  conv => whnf
                  repeat (first | ((with_reducible first | apply ga | apply gb | apply gc | apply gd | apply ge | apply gf | apply gg | apply gh | apply gi | apply gj); conv => whnf) | (refine ⟨⟨rfl, rfl, nle rfl, nle rfl⟩, ?_⟩; conv => whnf) | (refine AD.plain rfl ?_; conv => whnf) | fail)
                  have hset : X.set (0 + ((o : Nat) : Int).toNat) (c.2 : Int) = (fillI (F n).2 o).set o c.2 := by rw [show 0 + ((o : Nat) : Int).toNat = o by omega, hX]
                  have hA' : (p ++ [(a, c.2)]).all (fun c => decide (c.1 < 36864 ∧ c.2 < 32768)) = true := by
                    rw [List.all_append, hA]
                    simp; omega
                  refine hK' _ (updS F n (g, X.set (0 + ((o : Nat) : Int).toNat) (c.2 : Int))) ⟨by rw [hI, List.map_append]; rfl, hA', fun m hm => ?_⟩ (SubS.outI n [(1, 1), (4, 4)] rfl rfl rfl rfl rfl (.upd (.base rfl) rfl) rfl
                    (OLe.setI (gv := fun _ => .pv (.int .i64 (IntKind.i64.wrap (c.2 : Int)))) rfl rfl rfl rfl rfl (VLe.int (wi64 (by omega) (by omega))) (by omega)) rfl
                    ⟨⟨_, rfl, .ptr _ _ _ _ _ _ _ _ _ rfl rfl rfl rfl⟩, ⟨_, rfl, .ptr _ _ _ _ _ _ _ _ _ rfl rfl rfl rfl⟩, ⟨_, rfl, .same⟩, trivial⟩
                    ⟨.inl ⟨_, _, rfl, rfl, rfl, oLe rfl rfl rfl rfl .same .same⟩, .inl ⟨_, _, rfl, rfl, rfl, arr_le (u := hunY n) (F := updS F n (g, X.set (0 + ((o : Nat) : Int).toNat) (c.2 : Int))) rfl rfl rfl rfl (fun j hj => ?_) (look_out rfl) (fun _ _ => rfl)⟩, trivial⟩)
                  · rw [inn_sn, show (a, c.2).1 / 1024 = n from hn, show (a, c.2).1 % 1024 = o from ho]
                    by_cases e : m = n
                    · subst e
                      rw [updS_self, if_pos rfl]
                      dsimp only
                      rw [hset]
                      exact hR0.sn hno2
                    · rw [updS_ne e, if_neg (fun h => e h.symm)]
                      exact hR m hm
                  · show AV.row (hunY n j) (updS F n (g, X) j).1 1 0 (updS F n (g, X) j).2.length = _
                    by_cases e : j = n
                    · subst e
                      rw [updS_self, updS_self, List.length_set]
                    · rw [updS_ne e, updS_ne e]
      · rintro F2 ⟨q1, q2, q3⟩
        refine awp_last tab_ok mixed ?_
        conv => whnf
        repeat (first | ((with_reducible first | apply ga | apply gb | apply gc | apply gd | apply ge | apply gf | apply gg | apply gh | apply gi | apply gj); conv => whnf) | (refine ⟨⟨rfl, rfl, nle rfl, nle rfl⟩, ?_⟩; conv => whnf) | (refine AD.plain rfl ?_; conv => whnf) | fail)
        refine ⟨⟨by unfold inI64; omega⟩, ?_⟩
        conv => whnf
        repeat (first | ((with_reducible first | apply ga | apply gb | apply gc | apply gd | apply ge | apply gf | apply gg | apply gh | apply gi | apply gj); conv => whnf) | (refine ⟨⟨rfl, rfl, nle rfl, nle rfl⟩, ?_⟩; conv => whnf) | (refine AD.plain rfl ?_; conv => whnf) | fail)
        refine ⟨(k + 1, F2), ⟨⟨hlt, by dsimp only; rw [hp']; exact q1⟩, by dsimp only; rw [hp']; exact q2, by dsimp only; rw [hp']; exact q3⟩, SubS.keepI [(1, 1), (4, 4)] rfl rfl rfl rfl rfl (.base rfl) ⟨⟨_, rfl, .ptr _ _ _ _ _ _ _ _ _ rfl rfl rfl rfl⟩, ⟨_, rfl, .ptr _ _ _ _ _ _ _ _ _ rfl rfl rfl rfl⟩, ⟨_, rfl, .same⟩, trivial⟩
          ⟨.inl ⟨_, _, rfl, rfl, rfl, oLe rfl rfl rfl rfl .same .same⟩, .inl ⟨_, _, rfl, rfl, rfl, arr_le rfl rfl rfl rfl (fun _ _ => rfl) (look_hun rfl) (fun _ _ => rfl)⟩, trivial⟩, by dsimp only; omega⟩
    · obtain rfl : k = l.length := by omega
      rw [List.take_of_length_le (Nat.le_refl _)] at hp
      rw [← hp] at hA hR
      rw [List.drop_eq_nil_of_le (Nat.le_refl _), scanE] at hI
      conv => whnf
      repeat (first | ((with_reducible first | apply ga | apply gb | apply gc | apply gd | apply ge | apply gf | apply gg | apply gh | apply gi | apply gj); conv => whnf) | (refine ⟨⟨rfl, rfl, nle rfl, nle rfl⟩, ?_⟩; conv => whnf) | (refine AD.plain rfl ?_; conv => whnf) | fail)
      exact hK _ F ⟨hI, hA, hR⟩ (SubS.keepI [(4, 4)] rfl rfl rfl rfl rfl (.base rfl) ⟨⟨_, rfl, .ptr _ _ _ _ _ _ _ _ _ rfl rfl rfl rfl⟩, trivial⟩
          ⟨.inl ⟨_, _, rfl, rfl, rfl, arr_le rfl rfl rfl rfl (fun _ _ => rfl) (look_hun rfl) (fun _ _ => rfl)⟩, trivial⟩)
  · rintro F ⟨hI, hA, hR⟩
    obtain ⟨P, hP⟩ : ∃ P, l.map natC = P := ⟨_, rfl⟩
    obtain ⟨V, hV⟩ : ∃ V : Nat → List Int, V = fun j => (F j).2 := ⟨_, rfl⟩
    have hRV : ∀ m, m < 36 → RepI (V m) (inn P m) := fun m hm => by rw [hV, ← hP]; exact hR m hm
    have hres : objR l = (outK P 36, 0) := by
      unfold objR
      rw [hI, if_neg (by decide), hP]; rfl
    refine AWP.sub (SubS.mkN (s := [(4, .ptr 4 0 36 0 0)]) (h := [(4, arrZ V)]) (n := 111) fam200 [(4, 4)] rfl rfl rfl ⟨⟨_, rfl, .ptr _ _ _ _ _ _ _ _ _ rfl rfl rfl rfl⟩, trivial⟩ ⟨.inl ⟨_, _, rfl, rfl, rfl, ⟨rfl, rfl, rfl, Nat.le_refl _, fun i j hi hj => ?_⟩⟩, trivial⟩) ?_
    · rw [hV]
      exact VLe.frzO (fam200_in hj) (HFam.base (A := [(4, arrX hun F)]) (G := fun m => rowI (F m)) rfl j hj) .keepA rfl
    have hV1 : ∀ m, m < 36 → (V m).length ≤ 1024 := fun m hm => by
      rw [(hRV m hm).len]
      split
      · omega
      · rename_i he
        obtain ⟨q, hq, hqe⟩ := top_in he
        have := inn_lt q.1 (List.mem_map.mpr ⟨q, hq, rfl⟩)
        omega
    rw [hres]
    refine awp_piece tab_ok mixed ?_
    conv => whnf
    repeat (first | ((with_reducible first | apply ga | apply gb | apply gc | apply gd | apply ge | apply gf | apply gg | apply gh | apply gi | apply gj); conv => whnf) | (refine ⟨⟨rfl, rfl, nle rfl, nle rfl⟩, ?_⟩; conv => whnf) | (refine AD.plain rfl ?_; conv => whnf) | fail)
    refine awp_piece tab_ok mixed ?_
    conv => whnf
    repeat (first | ((with_reducible first | apply ga | apply gb | apply gc | apply gd | apply ge | apply gf | apply gg | apply gh | apply gi | apply gj); conv => whnf) | (refine ⟨⟨rfl, rfl, nle rfl, nle rfl⟩, ?_⟩; conv => whnf) | (refine AD.plain rfl ?_; conv => whnf) | fail)
    refine awp_loopI (fun x : Nat × Nat => x.1 ≤ 36) (fun x => mkSt 111 [(4, .ptr 4 0 36 0 0), (8, .row 1500 x.2 2 0 (outK P x.1).length), (9, i64 x.1)] [(4, arrZ V), (1500, rowA 35 2 BankR.p b0 x.2 (outK P x.1))]) (fun x => 36 - x.1) (0, 0) (Nat.zero_le _)
      (SubS.mkN [] [(4, 4)] rfl rfl rfl ⟨⟨_, rfl, .ptr _ _ _ _ _ _ _ _ _ rfl rfl rfl rfl⟩, ⟨_, rfl, .void _ _ _⟩, ⟨_, rfl, .same⟩, trivial⟩ ⟨.inl ⟨_, _, rfl, rfl, rfl, arrZ_keep⟩, .inr (.inl ⟨rfl, rfl⟩), trivial⟩) ?_
    rintro ⟨k, g⟩ hk
    dsimp only at hk ⊢
    have hol := outK_len P k
    refine awp_piece tab_ok mixed ?_
    conv => whnf
    repeat (first | ((with_reducible first | apply ga | apply gb | apply gc | apply gd | apply ge | apply gf | apply gg | apply gh | apply gi | apply gj); conv => whnf) | (refine ⟨⟨rfl, rfl, nle rfl, nle rfl⟩, ?_⟩; conv => whnf) | (refine AD.plain rfl ?_; conv => whnf) | fail)
    refine ⟨fun hc => ?_, fun hc => ?_⟩ <;> replace hc := nm hc <;> (try rw [Int.toNat_zero] at hc) <;> (try rw [Int.toNat_one] at hc)
    · have hk36 : k < 36 := by omega
      have hrep := hRV k hk36
      have hVk := hV1 k hk36
      have hkx : 0 + ((k : Nat) : Int).toNat * 1 + 0 = k := by omega
      conv => whnf
      repeat (first | ((with_reducible first | apply ga | apply gb | apply gc | apply gd | apply ge | apply gf | apply gg | apply gh | apply gi | apply gj); conv => whnf) | (refine ⟨⟨rfl, rfl, nle rfl, nle rfl⟩, ?_⟩; conv => whnf) | (refine AD.plain rfl ?_; conv => whnf) | fail)
      refine awp_cut (α := Nat) (fun g => mkSt 111 [(4, .ptr 4 0 36 0 0), (8, .row 1500 g 2 0 (outK P (k + 1)).length), (9, i64 k)] [(4, arrZ V), (1500, rowA 35 2 BankR.p b0 g (outK P (k + 1)))]) (fun _ => True) (fun K hK => awp_block ?_) ?_
      · refine awp_piece tab_ok mixed ?_
        conv => whnf
        repeat (first | ((with_reducible first | apply ga | apply gb | apply gc | apply gd | apply ge | apply gf | apply gg | apply gh | apply gi | apply gj); conv => whnf) | (refine ⟨⟨rfl, rfl, nle rfl, nle rfl⟩, ?_⟩; conv => whnf) | (refine AD.plain rfl ?_; conv => whnf) | fail)
        refine ⟨⟨by omega, by omega, by decide⟩, ?_⟩
        conv => whnf
        repeat (first | ((with_reducible first | apply ga | apply gb | apply gc | apply gd | apply ge | apply gf | apply gg | apply gh | apply gi | apply gj); conv => whnf) | (refine ⟨⟨rfl, rfl, nle rfl, nle rfl⟩, ?_⟩; conv => whnf) | (refine AD.plain rfl ?_; conv => whnf) | fail)
        refine ⟨⟨rfl, rfl, Nat.zero_lt_one, by show 0 + ((k : Nat) : Int).toNat * 1 + 1 ≤ 36; omega⟩, ?_⟩
        conv => whnf
        repeat (first | ((with_reducible first | apply ga | apply gb | apply gc | apply gd | apply ge | apply gf | apply gg | apply gh | apply gi | apply gj); conv => whnf) | (refine ⟨⟨rfl, rfl, nle rfl, nle rfl⟩, ?_⟩; conv => whnf) | (refine AD.plain rfl ?_; conv => whnf) | fail)
        refine ⟨fun h0 => ?_, fun h0 => ?_⟩ <;> replace h0 := nm h0 <;> (try rw [Int.toNat_zero] at h0) <;> (try rw [Int.toNat_one] at h0)
        · have h0' : ((V (0 + ((k : Nat) : Int).toNat * 1 + 0)).length : Int) = 0 := h0
          rw [hkx] at h0'
          have hnil : inn P k = [] := hrep.empty.mp (by omega)
          have hno : k ∉ nums P := fun h => inn_ne h hnil
          rw [outK_sn, if_neg hno, List.append_nil] at hK
          conv => whnf
          repeat (first | ((with_reducible first | apply ga | apply gb | apply gc | apply gd | apply ge | apply gf | apply gg | apply gh | apply gi | apply gj); conv => whnf) | (refine ⟨⟨rfl, rfl, nle rfl, nle rfl⟩, ?_⟩; conv => whnf) | (refine AD.plain rfl ?_; conv => whnf) | fail)
          exact hK _ g trivial (SubS.mkN [] [(4, 4), (1500, 1500)] rfl rfl rfl ⟨⟨_, rfl, .ptr _ _ _ _ _ _ _ _ _ rfl rfl rfl rfl⟩, ⟨_, rfl, .row _ _ _ _ _ _ _ _ _ rfl rfl rfl rfl⟩, ⟨_, rfl, .same⟩, trivial⟩ ⟨.inl ⟨_, _, rfl, rfl, rfl, arrZ_keep⟩, .inl ⟨_, _, rfl, rfl, rfl, .keepA⟩, trivial⟩)
        · have h0' : ¬ ((V (0 + ((k : Nat) : Int).toNat * 1 + 0)).length : Int) = 0 := h0
          rw [hkx] at h0'
          have hne : inn P k ≠ [] := fun h => h0' (by rw [hrep.empty.mpr h]; rfl)
          have hin : k ∈ nums P := Classical.byContradiction fun h => hne (inn_nil h)
          obtain ⟨ws, hws⟩ : ∃ ws, ws = (V k).map fun x => (max 0 x).toNat := ⟨_, rfl⟩
          have hww : wordsO (inn P k) = ws := by rw [hws]; exact (hrep.words hne).symm
          have hwl : ws.length = (V k).length := by rw [hws, List.length_map]
          rw [outK_sn, if_pos hin, hww] at hK
          conv => whnf
          repeat (first | ((with_reducible first | apply ga | apply gb | apply gc | apply gd | apply ge | apply gf | apply gg | apply gh | apply gi | apply gj); conv => whnf) | (refine ⟨⟨rfl, rfl, nle rfl, nle rfl⟩, ?_⟩; conv => whnf) | (refine AD.plain rfl ?_; conv => whnf) | fail)
          refine awp_pieceM tab_ok mixed (mkSt 111 [(4, .ptr 4 0 36 0 0), (8, .row 1500 g 2 0 (outK P k).length), (9, i64 k), (10, .ptr 10 0 2 0 0)] [(4, arrZ V), (1500, rowA 35 2 BankR.p b0 g (outK P k)), (10, bkO k .nilS)]) True (fun K1 hK1 => ?_) (fun _ => ?_)
          · conv => whnf
            repeat (first | ((with_reducible first | apply ga | apply gb | apply gc | apply gd | apply ge | apply gf | apply gg | apply gh | apply gi | apply gj); conv => whnf) | (refine ⟨⟨rfl, rfl, nle rfl, nle rfl⟩, ?_⟩; conv => whnf) | (refine AD.plain rfl ?_; conv => whnf) | fail)
            repeat (refine ⟨⟨rfl, rfl, nle rfl, nle rfl⟩, ?_⟩; conv => whnf)
            repeat (first | ((with_reducible first | apply ga | apply gb | apply gc | apply gd | apply ge | apply gf | apply gg | apply gh | apply gi | apply gj); conv => whnf) | (refine ⟨⟨rfl, rfl, nle rfl, nle rfl⟩, ?_⟩; conv => whnf) | (refine AD.plain rfl ?_; conv => whnf) | fail)
            exact hK1 _ trivial (SubS.mkN [] [(4, 4), (1500, 1500), (10, 10)] rfl rfl rfl ⟨⟨_, rfl, .ptr _ _ _ _ _ _ _ _ _ rfl rfl rfl rfl⟩, ⟨_, rfl, .row _ _ _ _ _ _ _ _ _ rfl rfl rfl rfl⟩, ⟨_, rfl, .same⟩, ⟨_, rfl, .ptr _ _ _ _ _ _ _ _ _ rfl rfl rfl rfl⟩, trivial⟩ ⟨.inl ⟨_, _, rfl, rfl, rfl, arrZ_keep⟩, .inl ⟨_, _, rfl, rfl, rfl, .keepA⟩, .inl ⟨_, _, rfl, rfl, rfl, bkLe rfl rfl rfl rfl .same .nils⟩, trivial⟩)
          refine awp_cut (α := Nat) (fun g1 => mkSt 111 [(4, .ptr 4 0 36 0 0), (8, .row 1500 g 2 0 (outK P k).length), (9, i64 k), (10, .ptr 10 0 2 0 0)] [(4, arrZ V), (1500, rowA 35 2 BankR.p b0 g (outK P k)), (10, bkO k (.row 1600 g1 1 0 ws.length)), (1600, rowA 39 1 wcell 0 g1 ws)]) (fun _ => True) (fun K1 hK1 => ?_) ?_
          · refine awp_piece tab_ok mixed ?_
            conv => whnf
            repeat (first | ((with_reducible first | apply ga | apply gb | apply gc | apply gd | apply ge | apply gf | apply gg | apply gh | apply gi | apply gj); conv => whnf) | (refine ⟨⟨rfl, rfl, nle rfl, nle rfl⟩, ?_⟩; conv => whnf) | (refine AD.plain rfl ?_; conv => whnf) | fail)
            refine awp_block (awp_loopI (fun x : Nat × Nat => x.1 ≤ ws.length)
              (fun x => mkSt 111 [(4, .ptr 4 0 36 0 0), (8, .row 1500 g 2 0 (outK P k).length), (9, i64 k), (10, .ptr 10 0 2 0 0), (11, i64 x.1)] [(4, arrZ V), (1500, rowA 35 2 BankR.p b0 g (outK P k)), (10, bkO k (.row 1600 x.2 1 0 (ws.take x.1).length)), (1600, rowA 39 1 wcell 0 x.2 (ws.take x.1))]) (fun x => ws.length - x.1) (0, 0) (Nat.zero_le _)
              (SubS.mkN [] [(4, 4), (1500, 1500), (10, 10)] rfl rfl rfl ⟨⟨_, rfl, .ptr _ _ _ _ _ _ _ _ _ rfl rfl rfl rfl⟩, ⟨_, rfl, .row _ _ _ _ _ _ _ _ _ rfl rfl rfl rfl⟩, ⟨_, rfl, .same⟩, ⟨_, rfl, .ptr _ _ _ _ _ _ _ _ _ rfl rfl rfl rfl⟩, ⟨_, rfl, .same⟩, trivial⟩ ⟨.inl ⟨_, _, rfl, rfl, rfl, arrZ_keep⟩, .inl ⟨_, _, rfl, rfl, rfl, .keepA⟩, .inl ⟨_, _, rfl, rfl, rfl, bkLe rfl rfl rfl rfl .same (.void _ _ _)⟩, .inr (.inl ⟨rfl, rfl⟩), trivial⟩) ?_)
            rintro ⟨i, g1⟩ hi
            dsimp only at hi ⊢
            refine awp_piece tab_ok mixed ?_
            conv => whnf
            repeat (first | ((with_reducible first | apply ga | apply gb | apply gc | apply gd | apply ge | apply gf | apply gg | apply gh | apply gi | apply gj); conv => whnf) | (refine ⟨⟨rfl, rfl, nle rfl, nle rfl⟩, ?_⟩; conv => whnf) | (refine AD.plain rfl ?_; conv => whnf) | fail)
            refine ⟨⟨by omega, by omega, by decide⟩, ?_⟩
            conv => whnf
            repeat (first | ((with_reducible first | apply ga | apply gb | apply gc | apply gd | apply ge | apply gf | apply gg | apply gh | apply gi | apply gj); conv => whnf) | (refine ⟨⟨rfl, rfl, nle rfl, nle rfl⟩, ?_⟩; conv => whnf) | (refine AD.plain rfl ?_; conv => whnf) | fail)
            refine ⟨⟨rfl, rfl, Nat.zero_lt_one, by show 0 + ((k : Nat) : Int).toNat * 1 + 1 ≤ 36; omega⟩, ?_⟩
            conv => whnf
            repeat (first | ((with_reducible first | apply ga | apply gb | apply gc | apply gd | apply ge | apply gf | apply gg | apply gh | apply gi | apply gj); conv => whnf) | (refine ⟨⟨rfl, rfl, nle rfl, nle rfl⟩, ?_⟩; conv => whnf) | (refine AD.plain rfl ?_; conv => whnf) | fail)
            refine ⟨fun hd => ?_, fun hd => ?_⟩ <;> replace hd := nm hd <;> (try rw [Int.toNat_zero] at hd) <;> (try rw [Int.toNat_one] at hd)
            · have hd' : (i : Int) < ((V (0 + ((k : Nat) : Int).toNat * 1 + 0)).length : Int) := hd
              rw [hkx] at hd'
              have hcell : IntKind.u16.wrap (if (V (0 + ((k : Nat) : Int).toNat * 1 + 0)).getD ((i : Nat) : Int).toNat 0 > 0 then (V (0 + ((k : Nat) : Int).toNat * 1 + 0)).getD ((i : Nat) : Int).toNat 0 else 0) = ((ws.getD i 0 : Nat) : Int) := by
                have e1 : ws.getD i 0 = (max 0 ((V k).getD i 0)).toNat := by
                  rw [hws, List.getD_eq_getElem?_getD, List.getD_eq_getElem?_getD, List.getElem?_map, List.getElem?_eq_getElem (show i < (V k).length by omega)]; rfl
                have e2 : (V k).getD i 0 = (V k).getD i (-1) := by
                  rw [List.getD_eq_getElem?_getD, List.getD_eq_getElem?_getD, List.getElem?_eq_getElem (show i < (V k).length by omega)]; rfl
                have e3 := hrep.bound (fun q hq => by
                  obtain ⟨c, hc, _, rfl⟩ := mem_inn.mp hq
                  rw [hP] at hA
                  have := of_decide_eq_true (List.all_eq_true.mp hA c hc)
                  exact this.2) i
                rw [hkx, Int.toNat_natCast, e1, e2]
                rw [e2] at *
                obtain ⟨y, hy⟩ : ∃ y, y = (V k).getD i (-1) := ⟨_, rfl⟩
                rw [← hy] at e3 ⊢
                by_cases hp : y > 0
                · rw [if_pos hp, wn16 (by omega) (by omega)]; omega
                · rw [if_neg hp, wn16 (by omega) (by omega)]; omega
              conv => whnf
              repeat (first | ((with_reducible first | apply ga | apply gb | apply gc | apply gd | apply ge | apply gf | apply gg | apply gh | apply gi | apply gj); conv => whnf) | (refine ⟨⟨rfl, rfl, nle rfl, nle rfl⟩, ?_⟩; conv => whnf) | (refine AD.plain rfl ?_; conv => whnf) | fail)
              refine awp_seq (awp_block ?_)
              refine awp_last tab_ok mixed (ex_drawn (by kernel_rfl) ?_)
              repeat (first | ((with_reducible first | apply ga | apply gb | apply gc | apply gd | apply ge | apply gf | apply gg | apply gh | apply gi | apply gj); conv => whnf) | (refine ⟨⟨rfl, rfl, nle rfl, nle rfl⟩, ?_⟩; conv => whnf) | (refine AD.plain rfl ?_; conv => whnf) | (refine AD.on rfl rfl rfl ?_; conv => whnf) | (refine AD.off rfl rfl rfl ?_; conv => whnf) | fail)
              repeat (refine ⟨⟨rfl, rfl, nle rfl, nle rfl⟩, ?_⟩; conv => whnf)
              repeat (first | ((with_reducible first | apply ga | apply gb | apply gc | apply gd | apply ge | apply gf | apply gg | apply gh | apply gi | apply gj); conv => whnf) | (refine ⟨⟨rfl, rfl, nle rfl, nle rfl⟩, ?_⟩; conv => whnf) | (refine AD.plain rfl ?_; conv => whnf) | fail)
              repeat (first | ((with_reducible first | apply ga | apply gb | apply gc | apply gd | apply ge | apply gf | apply gg | apply gh | apply gi | apply gj); conv => whnf) | (refine ⟨⟨rfl, rfl, nle rfl, nle rfl⟩, ?_⟩; conv => whnf) | (refine AD.plain rfl ?_; conv => whnf) | (refine AD.on rfl rfl rfl ?_; conv => whnf) | (refine AD.off rfl rfl rfl ?_; conv => whnf) | fail)
              refine ⟨⟨by omega, by omega, by decide⟩, ?_⟩
              conv => whnf
              repeat (first | ((with_reducible first | apply ga | apply gb | apply gc | apply gd | apply ge | apply gf | apply gg | apply gh | apply gi | apply gj); conv => whnf) | (refine ⟨⟨rfl, rfl, nle rfl, nle rfl⟩, ?_⟩; conv => whnf) | (refine AD.plain rfl ?_; conv => whnf) | fail)
              repeat (first | ((with_reducible first | apply ga | apply gb | apply gc | apply gd | apply ge | apply gf | apply gg | apply gh | apply gi | apply gj); conv => whnf) | (refine ⟨⟨rfl, rfl, nle rfl, nle rfl⟩, ?_⟩; conv => whnf) | (refine AD.plain rfl ?_; conv => whnf) | (refine AD.on rfl rfl rfl ?_; conv => whnf) | (refine AD.off rfl rfl rfl ?_; conv => whnf) | fail)
              refine ⟨⟨rfl, rfl, Nat.zero_lt_one, by show 0 + ((k : Nat) : Int).toNat * 1 + 1 ≤ 36; omega⟩, ?_⟩
              conv => whnf
              repeat (first | ((with_reducible first | apply ga | apply gb | apply gc | apply gd | apply ge | apply gf | apply gg | apply gh | apply gi | apply gj); conv => whnf) | (refine ⟨⟨rfl, rfl, nle rfl, nle rfl⟩, ?_⟩; conv => whnf) | (refine AD.plain rfl ?_; conv => whnf) | (refine AD.on rfl rfl rfl ?_; conv => whnf) | (refine AD.off rfl rfl rfl ?_; conv => whnf) | fail)
              refine ⟨⟨by omega, by show (i : Int) < ((V (0 + ((k : Nat) : Int).toNat * 1 + 0)).length : Int); rw [hkx]; omega, rfl⟩, ?_⟩
              conv => whnf
              repeat (first | ((with_reducible first | apply ga | apply gb | apply gc | apply gd | apply ge | apply gf | apply gg | apply gh | apply gi | apply gj); conv => whnf) | (refine ⟨⟨rfl, rfl, nle rfl, nle rfl⟩, ?_⟩; conv => whnf) | (refine AD.plain rfl ?_; conv => whnf) | fail)
              repeat (first | ((with_reducible first | apply ga | apply gb | apply gc | apply gd | apply ge | apply gf | apply gg | apply gh | apply gi | apply gj); conv => whnf) | (refine ⟨⟨rfl, rfl, nle rfl, nle rfl⟩, ?_⟩; conv => whnf) | (refine AD.plain rfl ?_; conv => whnf) | (refine AD.on rfl rfl rfl ?_; conv => whnf) | (refine AD.off rfl rfl rfl ?_; conv => whnf) | fail)
              refine ⟨⟨by decide⟩, ?_⟩
              conv => whnf
              repeat (first | ((with_reducible first | apply ga | apply gb | apply gc | apply gd | apply ge | apply gf | apply gg | apply gh | apply gi | apply gj); conv => whnf) | (refine ⟨⟨rfl, rfl, nle rfl, nle rfl⟩, ?_⟩; conv => whnf) | (refine AD.plain rfl ?_; conv => whnf) | fail)
              repeat (first | ((with_reducible first | apply ga | apply gb | apply gc | apply gd | apply ge | apply gf | apply gg | apply gh | apply gi | apply gj); conv => whnf) | (refine ⟨⟨rfl, rfl, nle rfl, nle rfl⟩, ?_⟩; conv => whnf) | (refine AD.plain rfl ?_; conv => whnf) | (refine AD.on rfl rfl rfl ?_; conv => whnf) | (refine AD.off rfl rfl rfl ?_; conv => whnf) | fail)
              refine ⟨⟨⟨rfl, rfl, rfl, nle rfl⟩, rfl, rfl, rfl, rfl, rfl, rfl, by show ((ws.take i).length + 1) * 2 ≤ _; rw [List.length_take]; omega⟩, ?_⟩
              conv => whnf
              repeat (first | ((with_reducible first | apply ga | apply gb | apply gc | apply gd | apply ge | apply gf | apply gg | apply gh | apply gi | apply gj); conv => whnf) | (refine ⟨⟨rfl, rfl, nle rfl, nle rfl⟩, ?_⟩; conv => whnf) | (refine AD.plain rfl ?_; conv => whnf) | fail)
              repeat (first | ((with_reducible first | apply ga | apply gb | apply gc | apply gd | apply ge | apply gf | apply gg | apply gh | apply gi | apply gj); conv => whnf) | (refine ⟨⟨rfl, rfl, nle rfl, nle rfl⟩, ?_⟩; conv => whnf) | (refine AD.plain rfl ?_; conv => whnf) | (refine AD.on rfl rfl rfl ?_; conv => whnf) | (refine AD.off rfl rfl rfl ?_; conv => whnf) | fail)
              repeat (refine ⟨⟨rfl, rfl, nle rfl, nle rfl⟩, ?_⟩; conv => whnf)
              repeat (first | ((with_reducible first | apply ga | apply gb | apply gc | apply gd | apply ge | apply gf | apply gg | apply gh | apply gi | apply gj); conv => whnf) | (refine ⟨⟨rfl, rfl, nle rfl, nle rfl⟩, ?_⟩; conv => whnf) | (refine AD.plain rfl ?_; conv => whnf) | fail)
              repeat (first | ((with_reducible first | apply ga | apply gb | apply gc | apply gd | apply ge | apply gf | apply gg | apply gh | apply gi | apply gj); conv => whnf) | (refine ⟨⟨rfl, rfl, nle rfl, nle rfl⟩, ?_⟩; conv => whnf) | (refine AD.plain rfl ?_; conv => whnf) | (refine AD.on rfl rfl rfl ?_; conv => whnf) | (refine AD.off rfl rfl rfl ?_; conv => whnf) | fail)
              refine AD.nil ⟨by kernel_rfl, ?_⟩
              conv => whnf
              repeat (first | ((with_reducible first | apply ga | apply gb | apply gc | apply gd | apply ge | apply gf | apply gg | apply gh | apply gi | apply gj); conv => whnf) | (refine ⟨⟨rfl, rfl, nle rfl, nle rfl⟩, ?_⟩; conv => whnf) | (refine AD.plain rfl ?_; conv => whnf) | fail)
              refine awp_last tab_ok mixed ?_
              conv => whnf
              repeat (first | ((with_reducible first | apply ga | apply gb | apply gc | apply gd | apply ge | apply gf | apply gg | apply gh | apply gi | apply gj); conv => whnf) | (refine ⟨⟨rfl, rfl, nle rfl, nle rfl⟩, ?_⟩; conv => whnf) | (refine AD.plain rfl ?_; conv => whnf) | fail)
              refine ⟨⟨by unfold inI64; omega⟩, ?_⟩
              conv => whnf
              repeat (first | ((with_reducible first | apply ga | apply gb | apply gc | apply gd | apply ge | apply gf | apply gg | apply gh | apply gi | apply gj); conv => whnf) | (refine ⟨⟨rfl, rfl, nle rfl, nle rfl⟩, ?_⟩; conv => whnf) | (refine AD.plain rfl ?_; conv => whnf) | fail)
              refine ⟨(i + 1, g1 + 1), by dsimp only; omega, ?_, by dsimp only; omega⟩
              dsimp only
              rw [take_sn (d := 0) (show i < ws.length by omega)]
              refine SubS.mkN [] [(4, 4), (1500, 1500), (10, 10), (1600, 1600)] rfl rfl rfl ⟨⟨_, rfl, .ptr _ _ _ _ _ _ _ _ _ rfl rfl rfl rfl⟩, ⟨_, rfl, .row _ _ _ _ _ _ _ _ _ rfl rfl rfl rfl⟩, ⟨_, rfl, .same⟩, ⟨_, rfl, .ptr _ _ _ _ _ _ _ _ _ rfl rfl rfl rfl⟩, ⟨_, rfl, .same⟩, trivial⟩
                ⟨.inl ⟨_, _, rfl, rfl, rfl, arrZ_keep⟩, .inl ⟨_, _, rfl, rfl, rfl, .keepA⟩, .inl ⟨_, _, rfl, rfl, rfl, bkLe rfl rfl rfl rfl .same (.row _ _ _ _ _ _ _ _ _ rfl rfl rfl (by simp))⟩, .inl ⟨_, _, rfl, rfl, rfl, OLe.snocA rfl rfl rfl rfl rfl fun j hj => ?_⟩, trivial⟩
              have hj0 : j = 0 := Nat.lt_one_iff.mp hj
              subst hj0
              exact VLe.int hcell
            · have hd' : ((V (0 + ((k : Nat) : Int).toNat * 1 + 0)).length : Int) ≤ (i : Int) := hd
              rw [hkx] at hd'
              obtain rfl : i = ws.length := by omega
              rw [List.take_length]
              conv => whnf
              repeat (first | ((with_reducible first | apply ga | apply gb | apply gc | apply gd | apply ge | apply gf | apply gg | apply gh | apply gi | apply gj); conv => whnf) | (refine ⟨⟨rfl, rfl, nle rfl, nle rfl⟩, ?_⟩; conv => whnf) | (refine AD.plain rfl ?_; conv => whnf) | fail)
              exact hK1 _ g1 trivial (SubS.mkN [] [(4, 4), (1500, 1500), (10, 10), (1600, 1600)] rfl rfl rfl ⟨⟨_, rfl, .ptr _ _ _ _ _ _ _ _ _ rfl rfl rfl rfl⟩, ⟨_, rfl, .row _ _ _ _ _ _ _ _ _ rfl rfl rfl rfl⟩, ⟨_, rfl, .same⟩, ⟨_, rfl, .ptr _ _ _ _ _ _ _ _ _ rfl rfl rfl rfl⟩, trivial⟩
                ⟨.inl ⟨_, _, rfl, rfl, rfl, arrZ_keep⟩, .inl ⟨_, _, rfl, rfl, rfl, .keepA⟩, .inl ⟨_, _, rfl, rfl, rfl, bkLe rfl rfl rfl rfl .same (.row _ _ _ _ _ _ _ _ _ rfl rfl rfl rfl)⟩, .inl ⟨_, _, rfl, rfl, rfl, .keepA⟩, trivial⟩)
          · rintro g1 -
            refine awp_last tab_ok mixed ?_
            conv => whnf
            repeat (first | ((with_reducible first | apply ga | apply gb | apply gc | apply gd | apply ge | apply gf | apply gg | apply gh | apply gi | apply gj); conv => whnf) | (refine ⟨⟨rfl, rfl, nle rfl, nle rfl⟩, ?_⟩; conv => whnf) | (refine AD.plain rfl ?_; conv => whnf) | fail)
            repeat (refine ⟨⟨rfl, rfl, nle rfl, nle rfl⟩, ?_⟩; conv => whnf)
            repeat (first | ((with_reducible first | apply ga | apply gb | apply gc | apply gd | apply ge | apply gf | apply gg | apply gh | apply gi | apply gj); conv => whnf) | (refine ⟨⟨rfl, rfl, nle rfl, nle rfl⟩, ?_⟩; conv => whnf) | (refine AD.plain rfl ?_; conv => whnf) | fail)
            refine ⟨⟨⟨rfl, rfl, rfl, nle rfl⟩, rfl, rfl, rfl, rfl, rfl, rfl, by show ((outK P k).length + 1) * 32 ≤ _; omega⟩, ?_⟩
            conv => whnf
            repeat (first | ((with_reducible first | apply ga | apply gb | apply gc | apply gd | apply ge | apply gf | apply gg | apply gh | apply gi | apply gj); conv => whnf) | (refine ⟨⟨rfl, rfl, nle rfl, nle rfl⟩, ?_⟩; conv => whnf) | (refine AD.plain rfl ?_; conv => whnf) | fail)
            refine hK _ (g + 1) trivial (SubS.mkN [1600] [(4, 4), (1500, 1500)] rfl rfl rfl ⟨⟨_, rfl, .ptr _ _ _ _ _ _ _ _ _ rfl rfl rfl rfl⟩, ⟨_, rfl, .row _ _ _ _ _ _ _ _ _ rfl rfl rfl (by simp)⟩, ⟨_, rfl, .same⟩, trivial⟩ ⟨.inl ⟨_, _, rfl, rfl, rfl, arrZ_keep⟩, .inl ⟨_, _, rfl, rfl, rfl, OLe.snocA rfl rfl rfl rfl rfl fun j hj => ?_⟩, trivial⟩)
            match j, hj with
            | 0, _ => exact .same
            | 1, _ => exact VLe.frzA rfl rfl rfl
      · rintro g2 -
        refine awp_last tab_ok mixed ?_
        conv => whnf
        repeat (first | ((with_reducible first | apply ga | apply gb | apply gc | apply gd | apply ge | apply gf | apply gg | apply gh | apply gi | apply gj); conv => whnf) | (refine ⟨⟨rfl, rfl, nle rfl, nle rfl⟩, ?_⟩; conv => whnf) | (refine AD.plain rfl ?_; conv => whnf) | fail)
        refine ⟨⟨by unfold inI64; omega⟩, ?_⟩
        conv => whnf
        repeat (first | ((with_reducible first | apply ga | apply gb | apply gc | apply gd | apply ge | apply gf | apply gg | apply gh | apply gi | apply gj); conv => whnf) | (refine ⟨⟨rfl, rfl, nle rfl, nle rfl⟩, ?_⟩; conv => whnf) | (refine AD.plain rfl ?_; conv => whnf) | fail)
        exact ⟨(k + 1, g2), by dsimp only; omega, SubS.mkN [] [(4, 4), (1500, 1500)] rfl rfl rfl ⟨⟨_, rfl, .ptr _ _ _ _ _ _ _ _ _ rfl rfl rfl rfl⟩, ⟨_, rfl, .row _ _ _ _ _ _ _ _ _ rfl rfl rfl rfl⟩, ⟨_, rfl, .same⟩, trivial⟩ ⟨.inl ⟨_, _, rfl, rfl, rfl, arrZ_keep⟩, .inl ⟨_, _, rfl, rfl, rfl, .keepA⟩, trivial⟩, by dsimp only; omega⟩
    · obtain rfl : k = 36 := by omega
      conv => whnf
      repeat (first | ((with_reducible first | apply ga | apply gb | apply gc | apply gd | apply ge | apply gf | apply gg | apply gh | apply gi | apply gj); conv => whnf) | (refine ⟨⟨rfl, rfl, nle rfl, nle rfl⟩, ?_⟩; conv => whnf) | (refine AD.plain rfl ?_; conv => whnf) | fail)
      refine awp_last tab_ok mixed ?_
      conv => whnf
      repeat (first | ((with_reducible first | apply ga | apply gb | apply gc | apply gd | apply ge | apply gf | apply gg | apply gh | apply gi | apply gj); conv => whnf) | (refine ⟨⟨rfl, rfl, nle rfl, nle rfl⟩, ?_⟩; conv => whnf) | (refine AD.plain rfl ?_; conv => whnf) | fail)
      exact done_tup [.pv (banksP (outK P 36)), i64 0] [1500] rfl ⟨VLe.frzA rfl rfl rfl, .same, trivial⟩
end Go.Proofs.Ytioccpodnkllfaa

namespace Go.Proofs.Ytioccpodnkllfaa
open Go Go.AM
attribute [local irreducible] AWP CallK PureCall SubS HeapCall HeapCallP HeapCallK
theorem scanE_ok : ∀ (l : List (Int × Nat)) (seen : List Nat), scanE l seen = 0 → ∀ c ∈ l, ¬ badC c
  | [], _, _, _, hc => by cases hc
  | d :: l, seen, h, c, hc => by
    rw [scanE] at h
    split at h
    · cases h
    · rename_i hb
      split at h
      · cases h
      · rcases List.mem_cons.mp hc with rfl | hc
        · exact hb
        · exact scanE_ok l _ h c hc
theorem valO_lt {e : List (Nat × Nat)} (h : ∀ q ∈ e, q.2 < 65536) (o : Nat) : valO e o < 65536 := by
  unfold valO
  split
  · rename_i q hq
    exact h q (List.mem_of_find?_eq_some hq)
  · decide
theorem objR_bs (l : List (Int × Nat)) : BsB (objR l).1 := by
  unfold objR
  split
  · exact ⟨by show (0 : Nat) < 2 ^ 46; decide, (fun _ h => by cases h)⟩
  · rename_i h
    have hok := scanE_ok l [] (Classical.not_not.mp h)
    have hP : ∀ c ∈ l.map natC, c.1 < 36864 ∧ c.2 < 32768 := fun c hc => by
      obtain ⟨d, hd, rfl⟩ := List.mem_map.mp hc
      have := hok d hd
      unfold badC at this
      unfold natC
      dsimp only
      omega
    refine ⟨?_, fun b hb => ?_⟩
    · show (banksO (l.map natC)).length < _
      have := outK_len (l.map natC) 36
      unfold outK at this
      unfold banksO
      omega
    · obtain ⟨n, hn, rfl⟩ := List.mem_map.mp hb
      obtain ⟨hn1, hn2⟩ := List.mem_filter.mp hn
      have hn36 := List.mem_range.mp hn1
      have hnn : n ∈ nums (l.map natC) := of_decide_eq_true hn2
      refine ⟨by unfold inI64; dsimp only; omega, ?_, fun w hw => ?_⟩
      · dsimp only
        unfold wordsO
        rw [List.length_map, List.length_range]
        obtain ⟨q, hq, hqe⟩ := top_in (inn_ne hnn)
        have := inn_lt q.1 (List.mem_map.mpr ⟨q, hq, rfl⟩)
        omega
      · dsimp only at hw
        unfold wordsO at hw
        obtain ⟨o, _, rfl⟩ := List.mem_map.mp hw
        exact valO_lt (fun q hq => by
          obtain ⟨c, hc, _, rfl⟩ := mem_inn.mp hq
          have := (hP c hc).2
          show c.2 < 65536
          omega) o
set_option maxHeartbeats 1000000 in
theorem f3 (l : List (Int × Nat)) (hl : CellsOk l) (E z n : Nat) (f : Nat → Nat → PV) : PureCall Try.prog 3 [objA l E z n f] (bb true) := by
  have hlen := hl.1
  have hB := objR_bs l
  refine PureCall.body tab_ok (by kernel_rfl) Try.func3 rfl rfl rfl ?_
  refine awp_piece tab_ok mixed ?_
  conv => whnf
  repeat (first | ((with_reducible first | apply ga | apply gb | apply gc | apply gd | apply ge | apply gf | apply gg | apply gh | apply gi | apply gj); conv => whnf) | (refine ⟨⟨rfl, rfl, nle rfl, nle rfl⟩, ?_⟩; conv => whnf) | fail)
  refine awp_piece tab_ok mixed ?_
  conv => whnf
  repeat (first | ((with_reducible first | apply ga | apply gb | apply gc | apply gd | apply ge | apply gf | apply gg | apply gh | apply gi | apply gj); conv => whnf) | (refine ⟨⟨rfl, rfl, nle rfl, nle rfl⟩, ?_⟩; conv => whnf) | fail)
  repeat (refine ⟨⟨rfl, rfl, nle rfl, nle rfl⟩, ?_⟩; conv => whnf)
  repeat (first | ((with_reducible first | apply ga | apply gb | apply gc | apply gd | apply ge | apply gf | apply gg | apply gh | apply gi | apply gj); conv => whnf) | (refine ⟨⟨rfl, rfl, nle rfl, nle rfl⟩, ?_⟩; conv => whnf) | fail)
  refine ⟨fun hc => ?_, fun hc => ?_⟩ <;> replace hc := nm hc <;> (try rw [Int.toNat_zero] at hc) <;> (try rw [Int.toNat_one] at hc)
  · conv => whnf
    repeat (first | ((with_reducible first | apply ga | apply gb | apply gc | apply gd | apply ge | apply gf | apply gg | apply gh | apply gi | apply gj); conv => whnf) | (refine ⟨⟨rfl, rfl, nle rfl, nle rfl⟩, ?_⟩; conv => whnf) | fail)
    refine CallK.flat [] f15 trivial rfl ?_
    conv => whnf
    repeat (first | ((with_reducible first | apply ga | apply gb | apply gc | apply gd | apply ge | apply gf | apply gg | apply gh | apply gi | apply gj); conv => whnf) | (refine ⟨⟨rfl, rfl, nle rfl, nle rfl⟩, ?_⟩; conv => whnf) | fail)
    exact done_bool _ _ rfl rfl rfl
  · have c1 := f16 l hl E z n f
    have c2 := f17 l hl (by omega) E z n f
    obtain ⟨x, hx⟩ : ∃ x, objR l = x := ⟨_, rfl⟩
    rw [hx] at c1 c2 hB
    conv => whnf
    repeat (first | ((with_reducible first | apply ga | apply gb | apply gc | apply gd | apply ge | apply gf | apply gg | apply gh | apply gi | apply gj); conv => whnf) | (refine ⟨⟨rfl, rfl, nle rfl, nle rfl⟩, ?_⟩; conv => whnf) | fail)
    refine awp_piece tab_ok mixed ?_
    conv => whnf
    repeat (first | ((with_reducible first | apply ga | apply gb | apply gc | apply gd | apply ge | apply gf | apply gg | apply gh | apply gi | apply gj); conv => whnf) | (refine ⟨⟨rfl, rfl, nle rfl, nle rfl⟩, ?_⟩; conv => whnf) | fail)
    repeat (refine ⟨⟨rfl, rfl, nle rfl, nle rfl⟩, ?_⟩; conv => whnf)
    repeat (first | ((with_reducible first | apply ga | apply gb | apply gc | apply gd | apply ge | apply gf | apply gg | apply gh | apply gi | apply gj); conv => whnf) | (refine ⟨⟨rfl, rfl, nle rfl, nle rfl⟩, ?_⟩; conv => whnf) | fail)
    refine CallK.drop [] c1 ⟨agg2 .same .same, trivial⟩ ?_
    conv => whnf
    repeat (first | ((with_reducible first | apply ga | apply gb | apply gc | apply gd | apply ge | apply gf | apply gg | apply gh | apply gi | apply gj); conv => whnf) | (refine ⟨⟨rfl, rfl, nle rfl, nle rfl⟩, ?_⟩; conv => whnf) | fail)
    refine awp_piece tab_ok mixed ?_
    conv => whnf
    repeat (first | ((with_reducible first | apply ga | apply gb | apply gc | apply gd | apply ge | apply gf | apply gg | apply gh | apply gi | apply gj); conv => whnf) | (refine ⟨⟨rfl, rfl, nle rfl, nle rfl⟩, ?_⟩; conv => whnf) | fail)
    repeat (refine ⟨⟨rfl, rfl, nle rfl, nle rfl⟩, ?_⟩; conv => whnf)
    repeat (first | ((with_reducible first | apply ga | apply gb | apply gc | apply gd | apply ge | apply gf | apply gg | apply gh | apply gi | apply gj); conv => whnf) | (refine ⟨⟨rfl, rfl, nle rfl, nle rfl⟩, ?_⟩; conv => whnf) | fail)
    refine CallK.drop [] c2 ⟨agg2 .same .same, trivial⟩ ?_
    conv => whnf
    repeat (first | ((with_reducible first | apply ga | apply gb | apply gc | apply gd | apply ge | apply gf | apply gg | apply gh | apply gi | apply gj); conv => whnf) | (refine ⟨⟨rfl, rfl, nle rfl, nle rfl⟩, ?_⟩; conv => whnf) | fail)
    refine awp_last tab_ok mixed ?_
    conv => whnf
    repeat (first | ((with_reducible first | apply ga | apply gb | apply gc | apply gd | apply ge | apply gf | apply gg | apply gh | apply gi | apply gj); conv => whnf) | (refine ⟨⟨rfl, rfl, nle rfl, nle rfl⟩, ?_⟩; conv => whnf) | fail)
    refine ⟨fun _ => ?_, fun h => absurd h (by simp)⟩
    conv => whnf
    repeat (first | ((with_reducible first | apply ga | apply gb | apply gc | apply gd | apply ge | apply gf | apply gg | apply gh | apply gi | apply gj); conv => whnf) | (refine ⟨⟨rfl, rfl, nle rfl, nle rfl⟩, ?_⟩; conv => whnf) | fail)
    refine CallK.flat [] (f18 x.1 hB) ⟨.same, .same, trivial⟩ rfl ?_
    conv => whnf
    repeat (first | ((with_reducible first | apply ga | apply gb | apply gc | apply gd | apply ge | apply gf | apply gg | apply gh | apply gi | apply gj); conv => whnf) | (refine ⟨⟨rfl, rfl, nle rfl, nle rfl⟩, ?_⟩; conv => whnf) | fail)
    refine CallK.flat [] f15 trivial rfl ?_
    conv => whnf
    repeat (first | ((with_reducible first | apply ga | apply gb | apply gc | apply gd | apply ge | apply gf | apply gg | apply gh | apply gi | apply gj); conv => whnf) | (refine ⟨⟨rfl, rfl, nle rfl, nle rfl⟩, ?_⟩; conv => whnf) | fail)
    exact done_bool _ _ rfl rfl rfl
end Go.Proofs.Ytioccpodnkllfaa
