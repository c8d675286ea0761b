/- Part of the proof: what the functions that the law calls compute (4). -/
import Derived.Test.YtioccpodnkllfaaV3
import Derived.Test.YtioccpodnkllfaaS
namespace Go.Proofs.Ytioccpodnkllfaa
open Go Go.Proofs Go.RowKit Go.Maps Go.Sort Go.Shelf
theorem sorts (m : Nat) : AnyZI.SortsIn Try.prog Try.sortedA_ren Fence.wide m :=
  ⟨fun blk off cap ss W hH hblk hsz => callsIn_wide.2 (AnyM.slices_Sort_int Try.sortA blk off cap ss W hH hblk hsz),
   fun p cap W => callsIn_wide.2 (AnyM.slices_Sort_int_none Try.sortA p cap W)⟩
theorem sorted62 {H : Type} (Bm b nn : Nat) (D0 : DataW H) (R : Value → Option (DataW H × List MemPlace)) (w : World) (hB : Bm < w.heap.size) (hm : w.cell? ⟨Bm, 0, none⟩ = some (.map (some b))) (hown : w.ownsMap Try.prog 3 R b nn D0) (hmax : Maps.size D0 ≤ maxLen) (hbytes : Maps.size D0 * 8 ≤ 140737488355328) :
    Calls Try.prog 33 #[.func (.func 62) #[] #[.pointer (some ⟨Bm, 0, none⟩)]] w fun e w' => ∃ (v : Value) (ss : List Int), e = .returned v ∧ ss.Perm (intKeys D0) ∧
      w'.ownsRow w.heap.size 3 1 v ss.length ((ss.mergeSort (fun x y => decide (x ≤ y))).map encZ) ∧ (v = .slice none 0 0 ↔ ss = []) ∧ Below w.heap.size w w' := by
  refine (callsIn_wide (n := 5)).1 ?_
  have hseq : SeqGives Fence.wide 2 Try.prog 62 #[.pointer (some ⟨Bm, 0, none⟩)] encZ (fun ss => ss.Perm (intKeys D0)) (Maps.size D0) w :=
    AnyZI.keys_gives (ρ := Try.keysA_ren) { Try.keysA with } Fence.wide _ trivial rfl (by omega) Bm b nn D0 _ hB hm hown
  exact AnyZI.sorted_in Try.sortedA Fence.wide 5 trivial trivial trivial trivial rfl (by omega) (sorts _) (enters_of Try.func61 (by kernel_rfl) rfl) 62 #[.pointer (some ⟨Bm, 0, none⟩)] trivial (enters_of Try.func62 (by kernel_rfl) rfl) _ _ hmax hbytes _ hseq
theorem sorted63 {H : Type} (Bm b nn : Nat) (D0 : DataW H) (R : Value → Option (DataW H × List MemPlace)) (w : World) (hB : Bm < w.heap.size) (hm : w.cell? ⟨Bm, 0, none⟩ = some (.map (some b))) (hown : w.ownsMap Try.prog 3 R b nn D0) (hmax : Maps.size D0 ≤ maxLen) (hbytes : Maps.size D0 * 8 ≤ 140737488355328) :
    Calls Try.prog 33 #[.func (.func 63) #[] #[.pointer (some ⟨Bm, 0, none⟩)]] w fun e w' => ∃ (v : Value) (ss : List Int), e = .returned v ∧ ss.Perm (intKeys D0) ∧
      w'.ownsRow w.heap.size 3 1 v ss.length ((ss.mergeSort (fun x y => decide (x ≤ y))).map encZ) ∧ (v = .slice none 0 0 ↔ ss = []) ∧ Below w.heap.size w w' := by
  refine (callsIn_wide (n := 5)).1 ?_
  have hseq : SeqGives Fence.wide 2 Try.prog 63 #[.pointer (some ⟨Bm, 0, none⟩)] encZ (fun ss => ss.Perm (intKeys D0)) (Maps.size D0) w :=
    AnyZI.keys_gives (ρ := Try.keysB_ren) { Try.keysB with } Fence.wide _ trivial rfl (by omega) Bm b nn D0 _ hB hm hown
  exact AnyZI.sorted_in Try.sortedA Fence.wide 5 trivial trivial trivial trivial rfl (by omega) (sorts _) (enters_of Try.func61 (by kernel_rfl) rfl) 63 #[.pointer (some ⟨Bm, 0, none⟩)] trivial (enters_of Try.func63 (by kernel_rfl) rfl) _ _ hmax hbytes _ hseq
end Go.Proofs.Ytioccpodnkllfaa

namespace Go.Proofs.Ytioccpodnkllfaa
open Go Go.Proofs Go.AM Go.RowKit
attribute [local irreducible] AWP PureCall SubS HeapCall
theorem map_arg {φ : Names} {w : World} {M : Blocks} {id : Nat} {xs : Array Value} (h : ArgsAre φ w M [.obj id 0] xs) : ∃ b, φ id 0 = some b ∧ xs = #[.map (some b)] := by
  obtain ⟨h1, h2⟩ := h
  have := h2 0 (by simp)
  generalize hv : xs.getD 0 undef = v at this
  cases this with
  | mp _ _ b _ hb => exact ⟨b, hb, arr_one h1 hv⟩
def keyF (n : Nat) (id : Nat) : AV := .func (.func n) 0 (fun _ => .nilS) 1 fun _ => .ptr id 0 1 0 0
theorem callk_keys {f g t : Nat} {H : Heap} {U : List Nat} {k kp : AV → Heap → List Nat → Prop} {mid id : Nat} (hen : enters Try.prog f = true) (hc : ∀ mb w, Calls Try.prog f #[.map mb] w fun e w' => e = .returned (.func (.func g) #[] #[.pointer (some ⟨w.heap.size, 0, none⟩)]) ∧ w' = w.alloc (.cells #[.map mb] t))
    (hid : memN id U = false) (hk : k (keyF g id) (updF H id ⟨t, 0, 1, 1, fun _ _ => .obj mid 0⟩) (id :: U)) : CallK Try.prog f [.obj mid 0] H U k kp := by
  intro C φ M w xs henv hm ha
  refine ⟨hen, ?_⟩
  obtain ⟨b, hb, rfl⟩ := map_arg ha
  refine (hc (some b) w).mono fun e w' hq => ?_
  obtain ⟨rfl, rfl⟩ := hq
  have hU := memN_of hid
  have hnew := hm.new (o := ⟨t, 0, 1, 1, fun _ _ => .obj mid 0⟩) hU w.drawn (arr := #[.map (some b)]) (fz := (0, 0)) (.zero _) ⟨⟨Nat.one_ne_zero, Nat.le_refl _⟩, fun i j hi hj => by
      have hi0 : i = 0 := Nat.lt_one_iff.mp hi
      have hj0 : j = 0 := Nat.lt_one_iff.mp hj
      subst hi0; subst hj0; rfl, fun i j hi hj => by
      have hi0 : i = 0 := Nat.lt_one_iff.mp hi
      have hj0 : j = 0 := Nat.lt_one_iff.mp hj
      subst hi0; subst hj0; exact .mp _ _ _ (by decide) hb⟩
  have hnone : φ id 0 = none := by
    cases hc : φ id 0 with
    | none => rfl
    | some b => exact absurd (hm.used id 0 b hc) hU
  have hold : ∀ c, c < w.heap.size → (w.alloc (.cells #[.map (some b)] t)).heap[c]? = w.heap[c]? := fun c hc => by
    show (w.heap.push _)[c]? = _
    rw [Array.getElem?_push, if_neg (Nat.ne_of_lt hc)]
  refine ⟨_, M, _, _, nameIt_le hnone, fun _ h => h, fun c hc => hold c (hm.heap.mlt c hc), bsize_old hold, hnew, keyF g id, ?_, hk⟩
  refine .func _ _ _ _ _ _ _ rfl rfl (fun i hi => absurd hi (Nat.not_lt_zero i)) fun i hi => ?_
  have hi0 : i = 0 := Nat.lt_one_iff.mp hi
  subst hi0
  exact .ptr _ _ _ _ _ _ (nameIt_same _ _ _ _)
theorem inI_wf {n : Int} (h : inI64 n) : (Lit.int .i64 n).wf = true := by
  simp only [Lit.wf, Bool.and_eq_true, decide_eq_true_eq]; exact h
def rNil : Value → Option (DataW Unit × List MemPlace) := fun _ => some (.nil, [])
theorem key_lit {n : Int} (h : inI64 n) : keyOf Try.prog 3 (.int .i64 n) = some (.int .i64 n) := by
  have hw := inI_wf h
  simp [keyOf, Try.underlying3, mapKey, hw]
def zOf : Value → Int
  | .int _ n => n
  | _ => 0
theorem map_owns {w : World} {b : Nat} {es : Array MapEntry} {ks : List Int} (hblk : w.heap[b]? = some (.map es ks.length)) (hsz : es.size = ks.length) (hk : ∀ (i : Nat) (e : MapEntry), es[i]? = some e → e.born = i ∧ e.key = .int .i64 (ks.getD i 0)) (hnd : ks.Nodup) (hb : ∀ x ∈ ks, inI64 x) (hlen : ks.length < 2 ^ 40) :
    ∃ D0 : DataW Unit, w.ownsMap Try.prog 3 rNil b ks.length D0 ∧ Maps.size D0 = ks.length ∧ (intKeys D0).Perm ks := by
  have hkl : es.toList.map (·.key) = ks.map encZ := by
    apply List.ext_getElem?
    intro i
    rw [List.getElem?_map, List.getElem?_map, Array.getElem?_toList]
    by_cases hi : i < ks.length
    · have he : es[i]? = some es[i] := Array.getElem?_eq_getElem (by omega)
      rw [he, List.getElem?_eq_getElem hi]
      have := (hk i _ he).2
      rw [List.getD_eq_getElem?_getD, List.getElem?_eq_getElem hi] at this
      show some es[i].key = some (.int .i64 ks[i])
      rw [this]; rfl
    · rw [Array.getElem?_eq_none (by omega), List.getElem?_eq_none (by omega)]; rfl
  have hbl : es.toList.map (·.born) = List.range ks.length := by
    apply List.ext_getElem?
    intro i
    rw [List.getElem?_map, Array.getElem?_toList]
    by_cases hi : i < ks.length
    · have he : es[i]? = some es[i] := Array.getElem?_eq_getElem (by omega)
      rw [he, List.getElem?_range hi]
      show some es[i].born = some i
      rw [(hk i _ he).1]
    · rw [Array.getElem?_eq_none (by omega), List.getElem?_eq_none (by simp; omega)]; rfl
  have hin : ∀ x ∈ es.toList, ∃ n, x.key = .int .i64 n ∧ n ∈ ks := fun x hx => by
    have : x.key ∈ es.toList.map (·.key) := List.mem_map.mpr ⟨x, hx, rfl⟩
    rw [hkl] at this
    obtain ⟨n, hn, he⟩ := List.mem_map.mp this
    exact ⟨n, he.symm, hn⟩
  have hrd : ∀ x ∈ es.toList, ∀ n, x.key = .int .i64 n → n ∈ ks → WideElems.rd Try.prog 3 rNil x = some (.int .i64 n, .nil) := fun x _ n hx hn => by
    unfold WideElems.rd
    rw [hx, key_lit (hb n hn)]; rfl
  refine ⟨_, ⟨es, ks.length, hblk, ⟨by rw [hsz]; unfold maxLen; omega, ⟨fun x hx => ?_, ?_, ?_⟩, fun x hx => ?_⟩, by omega, rfl⟩, ?_, ?_⟩
  · have : x.born ∈ es.toList.map (·.born) := List.mem_map.mpr ⟨x, hx, rfl⟩
    rw [hbl] at this
    exact List.mem_range.mp this
  · rw [hbl]; exact List.nodup_range
  · rw [hkl]; exact List.pairwise_map.mpr (hnd.imp fun h e => h (encZ_inj e))
  · obtain ⟨n, h1, h2⟩ := hin x hx
    exact ⟨_, hrd x hx n h1 h2⟩
  · show ((es.toList.map (WideElems.rg Try.prog 3 rNil)).foldr DataW.insert []).length = _
    rw [length_sorted, List.length_map, Array.length_toList, hsz]
  · show (((es.toList.map (WideElems.rg Try.prog 3 rNil)).foldr DataW.insert []).map fun p => _root_.Go.intOf p.1).Perm ks
    refine ((WideShapes.sorted_perm _).map _).trans (List.Perm.of_eq ?_)
    rw [List.map_map]
    have e : (es.toList.map (·.key)).map zOf = ks := by
      rw [hkl, List.map_map]
      conv => rhs; rw [← List.map_id ks]
      exact List.map_congr_left fun x _ => rfl
    refine Eq.trans ?_ e
    rw [List.map_map]
    refine List.map_congr_left fun x hx => ?_
    obtain ⟨n, h1, h2⟩ := hin x hx
    have e2 := WideElems.rg_of (hrd x hx n h1 h2)
    rw [Function.comp_apply, Function.comp_apply, e2, h1]; rfl
theorem callk_sorted {g : Nat} (hc : ∀ (Bm b nn : Nat) (D0 : DataW Unit) (R : Value → Option (DataW Unit × List MemPlace)) (w : World), Bm < w.heap.size → w.cell? ⟨Bm, 0, none⟩ = some (.map (some b)) → w.ownsMap Try.prog 3 R b nn D0 → Maps.size D0 ≤ maxLen → Maps.size D0 * 8 ≤ 140737488355328 →
      Calls Try.prog 33 #[.func (.func g) #[] #[.pointer (some ⟨Bm, 0, none⟩)]] w fun e w' => ∃ (v : Value) (ss : List Int), e = .returned v ∧ ss.Perm (intKeys D0) ∧
        w'.ownsRow w.heap.size 3 1 v ss.length ((ss.mergeSort (fun x y => decide (x ≤ y))).map encZ) ∧ (v = .slice none 0 0 ↔ ss = []) ∧ Below w.heap.size w w')
    {H : Heap} {U : List Nat} {k kp : AV → Heap → List Nat → Prop} {id mid : Nat} {op om : AO} (h1 : H id = some op) (hg : op.gen = 0) (hs : op.sz = 1) (hn : op.n = 1) (h0 : op.f 0 0 = .obj mid 0) (h2 : H mid = some om) (hmg : om.gen = 0) (hmn : om.n = 0) (hmz : om.sz = 0)
    (ks L : List Int) (hE : om.E = ks.length) (hk : ∀ i, i < ks.length → om.f i 0 = .pv (.int .i64 (ks.getD i 0))) (hb : ∀ x ∈ ks, inI64 x) (hlen : ks.length < 2 ^ 40) (hL : L.Perm ks) (hS : L.Pairwise fun x y => x ≤ y)
    (κ : k (.pv (.seq 3 1 ks.length fun i _ => .int .i64 (L.getD i 0))) H U) : CallK Try.prog 33 [keyF g id] H U k kp := by
  intro C φ M w xs henv hm ha
  refine ⟨by kernel_rfl, ?_⟩
  obtain ⟨bm, hbm, rfl⟩ : ∃ bm, φ id 0 = some bm ∧ xs = #[.func (.func g) #[] #[.pointer (some ⟨bm, 0, none⟩)]] := by
    obtain ⟨q1, q2⟩ := ha
    have := q2 0 (by simp)
    generalize hv : xs.getD 0 undef = v at this
    cases this with
    | func _ _ _ _ _ us ys e1 e2 e3 e4 =>
      have e5 := e4 0 (by decide)
      generalize hy : ys.getD 0 undef = y at e5
      cases e5 with
      | ptr _ _ _ _ _ b hb =>
        obtain rfl : us = #[] := Array.eq_empty_of_size_eq_zero e1
        obtain rfl := arr_one e2 hy
        exact ⟨b, hb, arr_one q1 hv⟩
  obtain ⟨bm', arr, fz, g1, g2, g3, g4, g5, g6, g7⟩ := (hm.heap.own id op h1).resolve_left (fun h => by omega)
  rw [hg, hbm] at g1; obtain rfl := Option.some.inj g1
  have hr := g7 0 0 (by omega) (by omega)
  rw [h0, Nat.zero_mul] at hr
  have hlt : 0 < arr.size := by rw [hn, hs] at g4; omega
  obtain ⟨b, es, hx, q2, q3, q4, q5, q6, q7⟩ := hm.mapAt (g := 0) h2 (by unfold isObj; rw [hmg, hmz, hmn]; rfl) hr
  have hcell : w.cell? ⟨bm, 0, none⟩ = some (.map (some b)) := by
    have e : w.cell? ⟨bm, 0, none⟩ = some (arr.getD 0 undef) := by simp [World.cell?, g2, hlt]
    rw [e, hx]
  have hkey : ∀ (i : Nat) (e : MapEntry), es[i]? = some e → e.born = i ∧ e.key = .int .i64 (ks.getD i 0) := fun i e he => by
    have hi : i < ks.length := by have := (Array.getElem?_eq_some_iff.mp he).1; omega
    obtain ⟨r1, r2, _⟩ := q7 i e he
    rw [hk i hi] at r2
    refine ⟨r1, ?_⟩
    generalize e.key = v at r2
    cases r2 with
    | pv _ _ h => cases h; rfl
  have hnd : ks.Nodup := by
    rw [List.nodup_iff_pairwise_ne, List.pairwise_iff_getElem]
    intro i j hi hj hij e
    have := q6 i j (by omega) (by omega) (by rw [hk i hi, hk j hj, List.getD_eq_getElem?_getD, List.getD_eq_getElem?_getD, List.getElem?_eq_getElem hi, List.getElem?_eq_getElem hj, e])
    omega
  obtain ⟨D0, o1, o2, o3⟩ := map_owns (by rw [← hE]; exact q3) (by omega) hkey hnd hb hlen
  refine (hc bm b _ D0 rNil w (Array.getElem?_eq_some_iff.mp g2).1 hcell o1 (by rw [o2]; unfold maxLen; omega) (by rw [o2]; omega)).mono fun e w' hq => ?_
  obtain ⟨v, ss, rfl, hss, hrow, hnil, hbel⟩ := hq
  have hsl : ss.length = ks.length := (hss.trans o3).length_eq
  have hsort : ss.mergeSort (fun x y => decide (x ≤ y)) = L := by
    have h1 : ss.mergeSort leI = L.mergeSort leI := mergeSort_of_perm_i ((hss.trans o3).trans hL.symm)
    exact h1.trans (List.mergeSort_of_pairwise (hS.imp fun h => decide_eq_true h))
  rw [hsort] at hrow
  have hold : ∀ c, c < w.heap.size → w'.heap[c]? = w.heap[c]? := hbel.block
  have hLl : L.length = ks.length := hL.length_eq
  rcases hrow.2 with ⟨rfl, hz⟩ | ⟨gb, cap, cur, rfl, hbase, hgb, r1, r2, r3, r4⟩
  · have hst := hm.stay [] hbel.os hbel.tape hbel.output hbel.size hold M (fun _ h => h) (fun _ h => .inl h)
    refine ⟨φ, M, _, _, fun _ _ _ h => h, fun _ h => h, fun c hc => hold c (hm.heap.mlt c hc), bsize_old hold, hst, _, ?_, κ⟩
    rw [show ks.length = 0 by omega]
    exact .pv _ _ (.seq0 _ _ _ _ _)
  · have hgl : gb < w'.heap.size := (Array.getElem?_eq_some_iff.mp hgb).1
    have hst := hm.stay [] hbel.os hbel.tape hbel.output hbel.size hold (fun c => M c ∨ c = gb) (fun _ h => .inl h) (fun c h => h.elim .inl fun e => .inr (.inr ⟨by omega, by omega⟩))
    refine ⟨φ, _, _, _, fun _ _ _ h => h, fun _ h => .inl h, fun c hc => hold c (hm.heap.mlt c hc), bsize_old hold, hst, _, ?_, κ⟩
    rw [← hsl]
    refine .pv _ _ (.seq _ _ _ _ gb 0 cap (fun i _ => .int .i64 (L.getD i 0)) (.inr rfl) r1 (fun i j hi hj => ?_) (fun i j _ _ => rfl) (fun i j _ _ => .int _ _))
    have hj0 : j = 0 := Nat.lt_one_iff.mp hj
    subst hj0
    have hic : i < cur.size := by omega
    have e1 : (cur.toList.take (ss.length * 1))[i]? = (L.map encZ)[i]? := by rw [r4]
    rw [List.getElem?_take_of_lt (by omega), List.getElem?_map, List.getElem?_eq_getElem (show i < L.length by omega), Array.getElem?_toList, Array.getElem?_eq_getElem hic] at e1
    have e2 : cur[i] = .int .i64 (L[i]'(by omega)) := Option.some.inj e1
    simp only [World.cell?, hgb, Nat.zero_add, Nat.mul_one, Nat.add_zero]
    simp [hic, e2, List.getD_eq_getElem?_getD, show i < L.length by omega]
theorem f34k {H : Heap} {U : List Nat} {k kp : AV → Heap → List Nat → Prop} {mid : Nat} (id : Nat) (hid : memN id U = false) (hk : k (keyF 62 id) (updF H id ⟨66, 0, 1, 1, fun _ _ => .obj mid 0⟩) (id :: U)) : CallK Try.prog 34 [.obj mid 0] H U k kp :=
  callk_keys (by kernel_rfl) (fun mb w => callsIn_wide.1 (AnyZI.keys_in Try.keysA Fence.wide 5 trivial rfl mb w)) hid hk
theorem f35k {H : Heap} {U : List Nat} {k kp : AV → Heap → List Nat → Prop} {mid : Nat} (id : Nat) (hid : memN id U = false) (hk : k (keyF 63 id) (updF H id ⟨67, 0, 1, 1, fun _ _ => .obj mid 0⟩) (id :: U)) : CallK Try.prog 35 [.obj mid 0] H U k kp :=
  callk_keys (by kernel_rfl) (fun mb w => callsIn_wide.1 (AnyZI.keys_in Try.keysB Fence.wide 5 trivial rfl mb w)) hid hk
def icell (n : Nat) (_ : Nat) : PV := .int .i64 n
def intsP (L : List Nat) : PV := sqA 3 1 icell 0 L
theorem getD_cast (L : List Nat) (i : Nat) : (L.map fun n : Nat => (n : Int)).getD i 0 = ((L.getD i 0 : Nat) : Int) := by
  rw [List.getD_eq_getElem?_getD, List.getD_eq_getElem?_getD, List.getElem?_map]
  cases L[i]? <;> rfl
theorem sortedK {g t : Nat} (hc : ∀ (Bm b nn : Nat) (D0 : DataW Unit) (R : Value → Option (DataW Unit × List MemPlace)) (w : World), Bm < w.heap.size → w.cell? ⟨Bm, 0, none⟩ = some (.map (some b)) → w.ownsMap Try.prog 3 R b nn D0 → Maps.size D0 ≤ maxLen → Maps.size D0 * 8 ≤ 140737488355328 →
      Calls Try.prog 33 #[.func (.func g) #[] #[.pointer (some ⟨Bm, 0, none⟩)]] w fun e w' => ∃ (v : Value) (ss : List Int), e = .returned v ∧ ss.Perm (intKeys D0) ∧
        w'.ownsRow w.heap.size 3 1 v ss.length ((ss.mergeSort (fun x y => decide (x ≤ y))).map encZ) ∧ (v = .slice none 0 0 ↔ ss = []) ∧ Below w.heap.size w w')
    {H : Heap} {U : List Nat} {k kp : AV → Heap → List Nat → Prop} {id mid : Nat} {om : AO} (h1 : H id = some ⟨t, 0, 1, 1, fun _ _ => .obj mid 0⟩) (h2 : H mid = some om) (hmg : om.gen = 0) (hmn : om.n = 0) (hmz : om.sz = 0)
    (ns Ls : List Nat) (hE : om.E = ns.length) (hk : ∀ i, i < ns.length → om.f i 0 = i64 (ns.getD i 0 : Nat)) (hb : ∀ n ∈ ns, n < 65536) (hlen : ns.length < 2 ^ 40) (hL : Ls.Perm ns) (hS : Ls.Pairwise fun x y => x ≤ y)
    (κ : k (.pv (intsP Ls)) H U) : CallK Try.prog 33 [keyF g id] H U k kp := by
  refine callk_sorted hc h1 rfl rfl rfl rfl h2 hmg hmn hmz (ns.map fun n : Nat => (n : Int)) (Ls.map fun n : Nat => (n : Int)) (by rw [List.length_map]; exact hE) (fun i hi => ?_) (fun x hx => ?_) (by rw [List.length_map]; exact hlen) (hL.map _) (List.pairwise_map.mpr (hS.imp fun h => by omega)) ?_
  · rw [List.length_map] at hi
    rw [hk i hi, getD_cast]; rfl
  · obtain ⟨n, hn, rfl⟩ := List.mem_map.mp hx
    have := hb n hn
    unfold inI64; omega
  · have e : (fun (i : Nat) (_ : Nat) => PV.int .i64 ((Ls.map fun n : Nat => (n : Int)).getD i 0)) = fun i j => icell (Ls.getD i 0) j := by
      funext i j; rw [getD_cast]; rfl
    rw [e, List.length_map, ← hL.length_eq]
    exact κ
theorem filter_range {N : Nat} {ns : List Nat} (hnd : ns.Nodup) (hb : ∀ n ∈ ns, n < N) : ((List.range N).filter fun n => decide (n ∈ ns)).Perm ns ∧ ((List.range N).filter fun n => decide (n ∈ ns)).Pairwise fun x y => x ≤ y := by
  constructor
  · refine (List.perm_ext_iff_of_nodup (List.nodup_range.filter _) hnd).mpr fun n => ?_
    rw [List.mem_filter, List.mem_range]
    exact ⟨fun h => of_decide_eq_true h.2, fun h => ⟨hb n h, decide_eq_true h⟩⟩
  · refine List.Pairwise.filter _ ?_
    exact List.pairwise_lt_range.imp fun h => Nat.le_of_lt h
end Go.Proofs.Ytioccpodnkllfaa

namespace Go.Proofs.Ytioccpodnkllfaa
open Go Go.AM
attribute [local irreducible] AWP CallK PureCall SubS HeapCall HeapCallP HeapCallK
def cellP (a : Int × Nat) (j : Nat) : PV :=
  match j with
  | 0 => .int .i64 a.1
  | _ => .int .u16 a.2
def cellsP (l : List (Int × Nat)) : PV := sqA 65 2 cellP (0, 0) l
def objA (l : List (Int × Nat)) (E z n : Nat) (f : Nat → Nat → PV) : AV := .agg 2 (getL [.pv (cellsP l), .pv (.seq E z n f)])
def objT (x : List BankR × Int) : AV := tupV [.pv (banksP x.1), i64 x.2]
def addN (ns : List Nat) (c : Nat × Nat) : List Nat := if c.1 / 1024 ∈ ns then ns else ns ++ [c.1 / 1024]
/-- The numbers of the banks, as they come. -/
def nums (p : List (Nat × Nat)) : List Nat := p.foldl addN []
/-- What lies in a bank. -/
def inn (p : List (Nat × Nat)) (n : Nat) : List (Nat × Nat) := p.filterMap fun c => if c.1 / 1024 = n then some (c.1 % 1024, c.2) else none
def valO (e : List (Nat × Nat)) (o : Nat) : Nat := match e.find? fun q => q.1 == o with | some q => q.2 | none => 0
def topO (e : List (Nat × Nat)) : Nat := (e.map (·.1)).foldl max 0
def wordsO (e : List (Nat × Nat)) : List Nat := (List.range (topO e + 1)).map (valO e)
def banksO (p : List (Nat × Nat)) : List BankR := ((List.range 36).filter fun n => decide (n ∈ nums p)).map fun n : Nat => ⟨(n : Int), wordsO (inn p n)⟩
def badC (c : Int × Nat) : Prop := c.1 < 0 ∨ 36863 < c.1 ∨ 32767 < c.2
instance (c : Int × Nat) : Decidable (badC c) := by unfold badC; infer_instance
def scanE : List (Int × Nat) → List Nat → Int
  | [], _ => 0
  | c :: cs, seen => if badC c then 3 else if c.1.toNat ∈ seen then 8 else scanE cs (seen ++ [c.1.toNat])
def natC (c : Int × Nat) : Nat × Nat := (c.1.toNat, c.2)
def objR (l : List (Int × Nat)) : List BankR × Int := if scanE l [] ≠ 0 then ([], scanE l []) else (banksO (l.map natC), 0)
theorem nums_sn (p : List (Nat × Nat)) (c : Nat × Nat) : nums (p ++ [c]) = addN (nums p) c := by unfold nums; rw [List.foldl_append]; rfl
theorem inn_sn (p : List (Nat × Nat)) (c : Nat × Nat) (n : Nat) : inn (p ++ [c]) n = if c.1 / 1024 = n then inn p n ++ [(c.1 % 1024, c.2)] else inn p n := by
  unfold inn
  rw [List.filterMap_append]
  by_cases h : c.1 / 1024 = n
  · rw [if_pos h]; simp [h]
  · rw [if_neg h]; simp [h]
theorem mem_addN {ns : List Nat} {c : Nat × Nat} {n : Nat} : n ∈ addN ns c ↔ n ∈ ns ∨ c.1 / 1024 = n := by
  unfold addN
  by_cases h : c.1 / 1024 ∈ ns
  · rw [if_pos h]; exact ⟨.inl, fun h2 => h2.elim id fun e => e ▸ h⟩
  · rw [if_neg h, List.mem_append, List.mem_singleton]; exact ⟨fun h => h.imp id Eq.symm, fun h => h.imp id Eq.symm⟩
theorem mem_nums {p : List (Nat × Nat)} {n : Nat} : n ∈ nums p ↔ ∃ c ∈ p, c.1 / 1024 = n := by
  have key : ∀ (p : List (Nat × Nat)) (ns : List Nat), n ∈ p.foldl addN ns ↔ n ∈ ns ∨ ∃ c ∈ p, c.1 / 1024 = n := by
    intro p
    induction p with
    | nil => intro ns; simp
    | cons c p ih =>
      intro ns
      rw [List.foldl_cons, ih, mem_addN]
      constructor
      · rintro ((h | h) | ⟨d, hd, h⟩)
        · exact .inl h
        · exact .inr ⟨c, List.mem_cons_self .., h⟩
        · exact .inr ⟨d, List.mem_cons_of_mem _ hd, h⟩
      · rintro (h | ⟨d, hd, h⟩)
        · exact .inl (.inl h)
        · rcases List.mem_cons.mp hd with rfl | hd
          · exact .inl (.inr h)
          · exact .inr ⟨d, hd, h⟩
  have := key p []
  simpa [nums] using this
theorem nums_nodup (p : List (Nat × Nat)) : (nums p).Nodup := by
  have key : ∀ (p : List (Nat × Nat)) (ns : List Nat), ns.Nodup → (p.foldl addN ns).Nodup := by
    intro p
    induction p with
    | nil => intro ns h; exact h
    | cons c p ih =>
      intro ns h
      rw [List.foldl_cons]
      refine ih _ ?_
      unfold addN
      by_cases hc : c.1 / 1024 ∈ ns
      · rw [if_pos hc]; exact h
      · rw [if_neg hc, List.nodup_append]
        exact ⟨h, by simp, fun a ha b hb e => hc (by rw [List.mem_singleton] at hb; subst hb; subst e; exact ha)⟩
  exact key p [] List.nodup_nil
theorem mem_inn {p : List (Nat × Nat)} {n : Nat} {q : Nat × Nat} : q ∈ inn p n ↔ ∃ c ∈ p, c.1 / 1024 = n ∧ q = (c.1 % 1024, c.2) := by
  unfold inn
  rw [List.mem_filterMap]
  constructor
  · rintro ⟨c, hc, h⟩
    by_cases e : c.1 / 1024 = n
    · rw [if_pos e] at h; exact ⟨c, hc, e, (Option.some.inj h).symm⟩
    · rw [if_neg e] at h; cases h
  · rintro ⟨c, hc, e, rfl⟩
    exact ⟨c, hc, by rw [if_pos e]⟩
theorem inn_nil {p : List (Nat × Nat)} {n : Nat} (h : n ∉ nums p) : inn p n = [] := by
  cases hi : inn p n with
  | nil => rfl
  | cons q r =>
    exfalso
    have : q ∈ inn p n := by rw [hi]; exact List.mem_cons_self ..
    obtain ⟨c, hc, e, _⟩ := mem_inn.mp this
    exact h (mem_nums.mpr ⟨c, hc, e⟩)
theorem inn_ne {p : List (Nat × Nat)} {n : Nat} (h : n ∈ nums p) : inn p n ≠ [] := by
  obtain ⟨c, hc, e⟩ := mem_nums.mp h
  intro h0
  have : (c.1 % 1024, c.2) ∈ inn p n := mem_inn.mpr ⟨c, hc, e, rfl⟩
  rw [h0] at this; cases this
/-- Offset o stands in bank n just where the address has come. -/
theorem inn_at {p : List (Nat × Nat)} {a : Nat} : (∃ q ∈ inn p (a / 1024), q.1 = a % 1024) ↔ a ∈ p.map (·.1) := by
  constructor
  · rintro ⟨q, hq, e⟩
    obtain ⟨c, hc, e1, rfl⟩ := mem_inn.mp hq
    exact List.mem_map.mpr ⟨c, hc, by simp only at e; omega⟩
  · intro h
    obtain ⟨c, hc, rfl⟩ := List.mem_map.mp h
    exact ⟨_, mem_inn.mpr ⟨c, hc, rfl, rfl⟩, rfl⟩
theorem le_top (e : List (Nat × Nat)) : ∀ q ∈ e, q.1 ≤ topO e := by
  have key : ∀ (l : List Nat) (a : Nat), a ≤ l.foldl max a ∧ ∀ x ∈ l, x ≤ l.foldl max a := by
    intro l
    induction l with
    | nil => intro a; exact ⟨Nat.le_refl _, fun x hx => by cases hx⟩
    | cons b l ih =>
      intro a
      rw [List.foldl_cons]
      obtain ⟨h1, h2⟩ := ih (max a b)
      refine ⟨Nat.le_trans (Nat.le_max_left a b) h1, fun x hx => ?_⟩
      rcases List.mem_cons.mp hx with rfl | hx
      · exact Nat.le_trans (Nat.le_max_right a _) h1
      · exact h2 x hx
  intro q hq
  exact (key _ 0).2 _ (List.mem_map.mpr ⟨q, hq, rfl⟩)
theorem top_in {e : List (Nat × Nat)} (h : e ≠ []) : ∃ q ∈ e, q.1 = topO e := by
  have key : ∀ (l : List Nat) (a : Nat), l.foldl max a = a ∨ l.foldl max a ∈ l := by
    intro l
    induction l with
    | nil => intro a; exact .inl rfl
    | cons b l ih =>
      intro a
      rw [List.foldl_cons]
      rcases ih (max a b) with h | h
      · rw [h]
        rcases Nat.le_total a b with h2 | h2
        · rw [Nat.max_eq_right h2]; exact .inr (List.mem_cons_self ..)
        · rw [Nat.max_eq_left h2]; exact .inl rfl
      · exact .inr (List.mem_cons_of_mem _ h)
  rcases key (e.map (·.1)) 0 with h1 | h1
  · cases e with
    | nil => exact absurd rfl h
    | cons q r =>
      have := le_top (q :: r) q (List.mem_cons_self ..)
      unfold topO at this ⊢
      rw [h1] at this ⊢
      exact ⟨q, List.mem_cons_self .., by omega⟩
  · obtain ⟨q, hq, e1⟩ := List.mem_map.mp h1
    exact ⟨q, hq, e1⟩
theorem inn_nodup {p : List (Nat × Nat)} (h : (p.map (·.1)).Nodup) (n : Nat) : ((inn p n).map (·.1)).Nodup := by
  induction p with
  | nil => exact List.nodup_nil
  | cons c p ih =>
    rw [List.map_cons, List.nodup_cons] at h
    have ih := ih h.2
    have e : inn (c :: p) n = (if c.1 / 1024 = n then [(c.1 % 1024, c.2)] else []) ++ inn p n := by
      unfold inn
      rw [List.filterMap_cons]
      by_cases hc : c.1 / 1024 = n
      · rw [if_pos hc, if_pos hc]; rfl
      · rw [if_neg hc, if_neg hc]; rfl
    rw [e]
    by_cases hc : c.1 / 1024 = n
    · rw [if_pos hc]
      show ((c.1 % 1024) :: (inn p n).map (·.1)).Nodup
      rw [List.nodup_cons]
      refine ⟨fun hm => ?_, ih⟩
      obtain ⟨q, hq, e1⟩ := List.mem_map.mp hm
      obtain ⟨d, hd, e2, rfl⟩ := mem_inn.mp hq
      simp only at e1
      exact h.1 (List.mem_map.mpr ⟨d, hd, by omega⟩)
    · rw [if_neg hc]; exact ih
theorem inn_lt {p : List (Nat × Nat)} {n : Nat} : ∀ o ∈ (inn p n).map (·.1), o < 1024 := fun o ho => by
  obtain ⟨q, hq, rfl⟩ := List.mem_map.mp ho
  obtain ⟨d, _, _, rfl⟩ := mem_inn.mp hq
  show d.1 % 1024 < 1024
  omega
theorem last_top {e : List (Nat × Nat)} {Os : List Nat} (hne : e ≠ []) (hp : Os.Perm (e.map (·.1))) (hs : Os.Pairwise fun x y => x ≤ y) : Os.getD (Os.length - 1) 0 = topO e := by
  have hlen : 0 < Os.length := by
    rw [hp.length_eq, List.length_map]
    cases e with
    | nil => exact absurd rfl hne
    | cons _ _ => simp
  have hlt : Os.length - 1 < Os.length := by omega
  rw [List.getD_eq_getElem?_getD, List.getElem?_eq_getElem hlt]
  show Os[Os.length - 1] = _
  refine Nat.le_antisymm ?_ ?_
  · have hm : Os[Os.length - 1] ∈ e.map (·.1) := hp.mem_iff.mp (List.getElem_mem hlt)
    obtain ⟨q, hq, e1⟩ := List.mem_map.mp hm
    rw [← e1]; exact le_top e q hq
  · obtain ⟨q, hq, e1⟩ := top_in hne
    have hm : topO e ∈ Os := hp.mem_iff.mpr (List.mem_map.mpr ⟨q, hq, e1⟩)
    obtain ⟨j, hj, e2⟩ := List.getElem_of_mem hm
    rw [← e2]
    by_cases hjl : j = Os.length - 1
    · subst hjl; exact Nat.le_refl _
    · exact (List.pairwise_iff_getElem.mp hs) j (Os.length - 1) hj hlt (by omega)
theorem getD_fst (e : List (Nat × Nat)) (i : Nat) : (e.map (·.1)).getD i 0 = (e.getD i (0, 0)).1 := by
  rw [List.getD_eq_getElem?_getD, List.getD_eq_getElem?_getD, List.getElem?_map]
  cases e[i]? <;> rfl
theorem cnt_lt {s s' : Nat → Bool} {j : Nat} (hs : s j = false) (hs' : ∀ i, s' i = (Nat.beq i j || s i)) : ∀ (E : Nat), j < E → (List.range E).countP (fun i => !s' i) < (List.range E).countP (fun i => !s i)
  | 0, h => absurd h (Nat.not_lt_zero j)
  | E + 1, h => by
    rw [List.range_succ, List.countP_append, List.countP_append]
    have hle : (List.range E).countP (fun i => !s' i) ≤ (List.range E).countP (fun i => !s i) := List.countP_mono_left fun x _ hx => by
      rw [hs'] at hx
      revert hx
      cases s x <;> cases Nat.beq x j <;> simp
    by_cases e : j = E
    · subst e
      have e1 : [j].countP (fun i => !s' i) = 0 := by simp [hs', Nat.beq_refl]
      have e2 : [j].countP (fun i => !s i) = 1 := by simp [hs]
      omega
    · have ih := cnt_lt hs hs' E (by omega)
      have hle2 : [E].countP (fun i => !s' i) ≤ [E].countP (fun i => !s i) := List.countP_mono_left fun x _ hx => by
        rw [hs'] at hx
        revert hx
        cases s x <;> cases Nat.beq x j <;> simp
      omega
theorem getD_set {V : List Nat} {i o w : Nat} (hi : i < V.length) : (V.set i w).getD o 0 = if o = i then w else V.getD o 0 := by
  rw [List.getD_eq_getElem?_getD, List.getD_eq_getElem?_getD, List.getElem?_set]
  by_cases h : i = o
  · subst h; rw [if_pos rfl, if_pos rfl, if_pos hi]; rfl
  · rw [if_neg h, if_neg (fun e => h e.symm)]
theorem words_of {e : List (Nat × Nat)} {V : List Nat} (hl : V.length = topO e + 1) (h1 : ∀ q ∈ e, V.getD q.1 0 = q.2) (h2 : ∀ o, (∀ q ∈ e, q.1 ≠ o) → V.getD o 0 = 0) : V = wordsO e := by
  unfold wordsO
  refine List.ext_getElem (by rw [List.length_map, List.length_range, hl]) fun o h3 h4 => ?_
  rw [List.getElem_map, List.getElem_range]
  have e1 : V[o] = V.getD o 0 := by rw [List.getD_eq_getElem?_getD, List.getElem?_eq_getElem h3]; rfl
  rw [e1]
  unfold valO
  split
  · rename_i q hq
    have hm := List.mem_of_find?_eq_some hq
    have ho : q.1 = o := by have := List.find?_some hq; simpa using this
    rw [← ho]; exact h1 q hm
  · rename_i hq
    rw [List.find?_eq_none] at hq
    exact h2 o fun q hm he => hq q hm (by simpa using he)
end Go.Proofs.Ytioccpodnkllfaa

namespace Go.Proofs.Ytioccpodnkllfaa
open Go Go.AM
attribute [local irreducible] AWP CallK PureCall SubS HeapCall HeapCallP HeapCallK
def outX (u : Nat → Nat) (ns : List Nat) : AO := mpO 0 (ns.map fun m : Nat => (i64 m, .obj (u m) 0))
def innO (e : List (Nat × Nat)) : AO := mpO 0 (e.map fun q => (i64 q.1, u16 q.2))
def hun (m : Nat) : Nat := 200 + m
def hunX (n m : Nat) : Nat := if m = n then 52 else 200 + m
def cO (a : Int × Nat) : AO := ⟨65, 0, 2, 1, fun _ j => .pv (cellP a j)⟩
theorem cLe {H : Heap} {B : List Nat} {U : List (Nat × Nat)} {o : AO} {a : Int × Nat} (e1 : o.E = 65) (e2 : o.gen = 0) (e3 : o.sz = 2) (e4 : o.n = 1) (h0 : VLe H B U (o.f 0 0) (i64 a.1)) (h1 : VLe H B U (o.f 0 1) (u16 a.2)) : OLe H B U o (cO a) :=
  ⟨e1.symm, e2.symm, e3.symm, Nat.le_of_eq e4.symm, fun i j hi hj => by
    have hi0 : i = 0 := Nat.lt_one_iff.mp hi
    subst hi0
    rw [e3] at hj
    match j, hj with
    | 0, _ => exact h0
    | 1, _ => exact h1⟩
def famG (p : List (Nat × Nat)) (m : Nat) : AO := innO (inn p m)
def inP (p : List (Nat × Nat)) (m : Nat) : Bool := decide (m ∈ nums p)
def inX (p : List (Nat × Nat)) (n m : Nat) : Bool := decide (m ∈ nums p ∧ m ≠ n)
theorem innO_le {H : Heap} {B : List Nat} {U : List (Nat × Nat)} {e : List (Nat × Nat)} : ObLe H B U (innO e) (innO e) := mpLeM fun _ _ => ⟨.same, .same⟩
theorem outX_le {H : Heap} {B : List Nat} {U : List (Nat × Nat)} {u u' : Nat → Nat} {ns : List Nat} (h : ∀ m ∈ ns, lookL U (u' m) = some (u m)) : ObLe H B U (outX u ns) (outX u' ns) :=
  mpLeM fun m hm => ⟨.same, .obj _ _ _ _ (h m hm) rfl⟩
theorem SubS.keepF {st : ASt} {n : Nat} {s : List (Nat × AV)} {A : List (Nat × AO)} {G : Nat → List (Nat × Nat)} (UA : List (Nat × Nat)) (b : Nat → Bool) (hi : injR UA = true) (hk : keysIn UA (keysL A) = true) (hl : low UA = true) (hr : (UA.all fun q => Nat.ble (q.2 + 1) 200) = true) (hn : n = st.nt)
    (hH : HFam 36 st.heap fun m => innO (G m)) (hs : AllS st [] (UA ++ famR 36 hun b) s) (hA : AllH st [] (UA ++ famR 36 hun b) A) (hx : st.x = X0 := by rfl) : SubS st (mkSt n s (A ++ fam 36 fun m => innO (G m))) := by
  refine SubS.mkF [] UA hun b hi hk hl (fun m k _ _ _ _ h => by unfold hun at h; omega) (fun q hq m _ _ => ?_) hn hs hA (fun m hm => ?_) hx
  · simp only [List.all_eq_true] at hr
    have := Nat.le_of_ble_eq_true (hr q hq)
    unfold hun; omega
  · cases hb : b m with
    | false => exact ⟨.inr (.inl ⟨famR_none hl hb, rfl⟩), trivial⟩
    | true => exact ⟨.inr (.inr ⟨_, _, famR_look hl hm hb, hH m hm, rfl, innO_le⟩), trivial⟩
theorem SubS.inF {st : ASt} {n : Nat} {s : List (Nat × AV)} {A : List (Nat × AO)} {G : Nat → List (Nat × Nat)} (x : Nat) (UA : List (Nat × Nat)) (b : Nat → Bool) (hb : ∀ m, b m = true → m ≠ x) (hi : injR UA = true) (hk : keysIn ((52, 200 + x) :: UA) (keysL A) = true) (hl : low UA = true) (hr : (UA.all fun q => Nat.ble (q.2 + 1) 200) = true) (hn : n = st.nt)
    (hH : HFam 36 st.heap fun m => innO (G m)) (hs : AllS st [] (((52, 200 + x) :: UA) ++ famR 36 hun b) s) (hA : AllH st [] (((52, 200 + x) :: UA) ++ famR 36 hun b) A) (hx : st.x = X0 := by rfl) : SubS st (mkSt n s (A ++ fam 36 fun m => innO (G m))) := by
  have hl' : low ((52, 200 + x) :: UA) = true := by
    have : low ((52, 200 + x) :: UA) = (Nat.ble (52 + 1) 200 && low UA) := rfl
    rw [this, hl]; rfl
  simp only [List.all_eq_true] at hr
  refine SubS.mkF [] ((52, 200 + x) :: UA) hun b ?_ hk hl' (fun m k _ _ _ _ h => by unfold hun at h; omega) (fun q hq m _ hbm => ?_) hn hs hA (fun m hm => ?_) hx
  · simp only [injR, Bool.and_eq_true, List.all_eq_true, Bool.not_eq_true']
    exact ⟨fun q hq => beqN_ne (by have := Nat.le_of_ble_eq_true (hr q hq); omega), hi⟩
  · unfold hun
    rcases List.mem_cons.mp hq with rfl | hq
    · have := hb m hbm; simp only; omega
    · have := Nat.le_of_ble_eq_true (hr q hq); omega
  · cases hbm : b m with
    | false => exact ⟨.inr (.inl ⟨famR_none hl' hbm, rfl⟩), trivial⟩
    | true => exact ⟨.inr (.inr ⟨_, _, famR_look hl' hm hbm, hH m hm, rfl, innO_le⟩), trivial⟩
theorem mp_at {α : Type} {es : List α} {g : Nat} {f : α → AV × AV} {i : Nat} (hi : i < (mpO g (es.map f)).E) : ∃ a ∈ es, (mpO g (es.map f)).f i 0 = (f a).1 ∧ (mpO g (es.map f)).f i 1 = (f a).2 := by
  have hl : i < es.length := by have : (mpO g (es.map f)).E = (es.map f).length := rfl; rw [this, List.length_map] at hi; exact hi
  have e : (es.map f).getD i (.nilS, .nilS) = f es[i] := by rw [List.getD_eq_getElem?_getD, List.getElem?_map, List.getElem?_eq_getElem hl]; rfl
  exact ⟨es[i], List.getElem_mem hl, by rw [mpO_f0, e], by rw [mpO_f1, e]⟩
theorem mp_of {α : Type} {es : List α} {g : Nat} {f : α → AV × AV} {a : α} (h : a ∈ es) : ∃ i, i < (mpO g (es.map f)).E ∧ (mpO g (es.map f)).f i 0 = (f a).1 ∧ (mpO g (es.map f)).f i 1 = (f a).2 := by
  obtain ⟨i, hl, rfl⟩ := List.getElem_of_mem h
  have e : (es.map f).getD i (.nilS, .nilS) = f es[i] := by rw [List.getD_eq_getElem?_getD, List.getElem?_map, List.getElem?_eq_getElem hl]; rfl
  exact ⟨i, by show i < (es.map f).length; rw [List.length_map]; exact hl, by rw [mpO_f0, e], by rw [mpO_f1, e]⟩
theorem i64_inj {a b : Int} (h : i64 a = i64 b) : a = b := by unfold i64 at h; injection h with h; injection h
theorem outX_at {u : Nat → Nat} {ns : List Nat} {i n : Nat} (hi : i < (outX u ns).E) (h : (outX u ns).f i 0 = i64 n) : n ∈ ns ∧ (outX u ns).f i 1 = .obj (u n) 0 := by
  obtain ⟨a, ha, e0, e1⟩ := mp_at hi
  have : a = n := by have := i64_inj (e0.symm.trans h); omega
  subst this
  exact ⟨ha, e1⟩
theorem outX_no {u : Nat → Nat} {ns : List Nat} {n : Nat} (h : ∀ i, i < (outX u ns).E → (outX u ns).f i 0 ≠ i64 n) : n ∉ ns := fun hn => by
  obtain ⟨i, hi, e0, _⟩ := mp_of (g := 0) (f := fun m : Nat => (i64 m, AV.obj (u m) 0)) hn
  exact h i hi e0
theorem innO_at {e : List (Nat × Nat)} {i o : Nat} (hi : i < (innO e).E) (h : (innO e).f i 0 = i64 o) : ∃ q ∈ e, q.1 = o := by
  obtain ⟨a, ha, e0, e1⟩ := mp_at hi
  exact ⟨a, ha, by have := i64_inj (e0.symm.trans h); omega⟩
theorem innO_no {e : List (Nat × Nat)} {o : Nat} (h : ∀ i, i < (innO e).E → (innO e).f i 0 ≠ i64 o) : ∀ q ∈ e, q.1 ≠ o := fun q hq e1 => by
  obtain ⟨i, hi, e0, _⟩ := mp_of (g := 0) (f := fun q : Nat × Nat => (i64 q.1, u16 q.2)) hq
  exact h i hi (by rw [← e1]; exact e0)
theorem outX_push {H : Heap} {B : List Nat} {U : List (Nat × Nat)} {u u' : Nat → Nat} {ns : List Nat} {n id : Nat} (h : ∀ m ∈ ns, lookL U (u' m) = some (u m)) (h2 : lookL U (u' n) = some id) :
    ObLe H B U ⟨(outX u ns).E + 1, (outX u ns).gen, 0, 0, pushV (outX u ns).f (outX u ns).E (i64 n) (.obj id 0)⟩ (outX u' (ns ++ [n])) := by
  have e : (outX u ns).E = ns.length := List.length_map ..
  rw [e]
  exact mpLeS (p := fun m : Nat => (i64 m, AV.obj (u m) 0)) (q := fun m : Nat => (i64 m, AV.obj (u' m) 0)) rfl rfl rfl rfl rfl rfl (fun m hm => ⟨.same, .obj _ _ _ _ (h m hm) rfl⟩) .same (.obj _ _ _ _ h2 rfl)
theorem innO_push {H : Heap} {B : List Nat} {U : List (Nat × Nat)} {e : List (Nat × Nat)} {o w : Nat} {kv : AV} (h : VLe H B U kv (u16 w)) :
    ObLe H B U ⟨(innO e).E + 1, (innO e).gen, 0, 0, pushV (innO e).f (innO e).E (i64 o) kv⟩ (innO (e ++ [(o, w)])) := by
  have e1 : (innO e).E = e.length := List.length_map ..
  rw [e1]
  exact mpLeS (p := fun q : Nat × Nat => (i64 q.1, u16 q.2)) (q := fun q : Nat × Nat => (i64 q.1, u16 q.2)) rfl rfl rfl rfl rfl rfl (fun _ _ => ⟨.same, .same⟩) .same h
theorem SubS.outF {st : ASt} {n : Nat} {s : List (Nat × AV)} {A : List (Nat × AO)} {G G' : Nat → List (Nat × Nat)} (B : List Nat) (x : Nat) (UA : List (Nat × Nat)) (b : Nat → Bool) (hi : injR UA = true) (hk : keysIn UA (keysL A) = true) (hl : low UA = true) (hr : (UA.all fun q => Nat.ble (q.2 + 1) 52 || (Nat.ble 53 q.2 && Nat.ble (q.2 + 1) 200)) = true) (hB : (B.all fun c => Nat.ble (c + 1) 52 || (Nat.ble 53 c && Nat.ble (c + 1) 200)) = true) (hn : n = st.nt)
    (hH : HFam 36 st.heap fun m => innO (G m)) (hG : ∀ m, m ≠ x → G' m = G m) (h52 : b x = true → ∃ o, st.heap 52 = some o ∧ ObLe st.heap B (UA ++ famR 36 (hunX x) b) o (innO (G' x))) (hs : AllS st B (UA ++ famR 36 (hunX x) b) s) (hA : AllH st B (UA ++ famR 36 (hunX x) b) A) (hx : st.x = X0 := by rfl) : SubS st (mkSt n s (A ++ fam 36 fun m => innO (G' m))) := by
  simp only [List.all_eq_true, Bool.or_eq_true, Bool.and_eq_true] at hr hB
  have far : ∀ c, (Nat.ble (c + 1) 52 = true ∨ Nat.ble 53 c = true ∧ Nat.ble (c + 1) 200 = true) → c < 200 ∧ c ≠ 52 := fun c h0 => by
    rcases h0 with h | ⟨h, h'⟩
    · have := Nat.le_of_ble_eq_true h; omega
    · have := Nat.le_of_ble_eq_true h; have := Nat.le_of_ble_eq_true h'; omega
  have hBn : ∀ c, (200 ≤ c ∨ c = 52) → memN c B = false := fun c hc => by
    cases hm : memN c B with
    | false => rfl
    | true => have := far c (hB c (memN_iff.mp hm)); omega
  refine SubS.mkF B UA (hunX x) b hi hk hl (fun m k _ _ _ _ h => ?_) (fun q hq m _ _ => ?_) hn hs hA (fun m hm => ?_) hx
  · unfold hunX at h
    by_cases h1 : m = x <;> by_cases h2 : k = x
    · rw [h1, h2]
    · rw [if_pos h1, if_neg h2] at h; omega
    · rw [if_neg h1, if_pos h2] at h; omega
    · rw [if_neg h1, if_neg h2] at h; omega
  · have h1 := far q.2 (hr q hq)
    unfold hunX
    split <;> omega
  · cases hb : b m with
    | false => exact ⟨.inr (.inl ⟨famR_none hl hb, rfl⟩), trivial⟩
    | true =>
      by_cases e : m = x
      · subst e
        obtain ⟨o, h1, h2⟩ := h52 hb
        exact ⟨.inr (.inr ⟨52, o, by rw [famR_look hl hm hb, show hunX m m = 52 from if_pos rfl], h1, hBn 52 (.inr rfl), h2⟩), trivial⟩
      · refine ⟨.inr (.inr ⟨200 + m, innO (G m), by rw [famR_look hl hm hb, show hunX x m = 200 + m from if_neg e], hH m hm, hBn _ (.inl (by omega)), ?_⟩), trivial⟩
        rw [hG m e]; exact innO_le
/-- The round over a bank's map: what has come, what came last. -/
def itO (E : Nat) (s : Nat → Bool) (lst : Option Nat) : AO := ⟨E, 2, 0, 0, fun i j => match j with
  | 1 => .pv (.bool (s i))
  | _ => match i with
    | 0 => .obj 52 0
    | 1 => (match lst with
      | none => .nilS
      | some k => .pv (.int .i64 k))
    | _ => .nilS⟩
theorem itLe {H : Heap} {B : List Nat} {U : List (Nat × Nat)} {o : AO} {E : Nat} {s : Nat → Bool} {lst : Option Nat} (e1 : o.E = E) (e2 : o.gen = 2) (e3 : o.sz = 0) (e4 : o.n = 0) (h1 : ∀ i, VLe H B U (o.f i 1) (.pv (.bool (s i)))) (h0 : VLe H B U (o.f 0 0) (.obj 52 0))
    (hl : VLe H B U (o.f 1 0) (match lst with | none => .nilS | some k => .pv (.int .i64 k))) (hr : ∀ i, VLe H B U (o.f (i + 2) 0) .nilS) : ObLe H B U o (itO E s lst) :=
  ⟨e1.symm, e2.symm, e3, rfl, e4, rfl, fun i j _ hj => match j, hj with
    | 1, _ => h1 i
    | 0, _ => match i with
      | 0 => h0
      | 1 => hl
      | i + 2 => hr i⟩
theorem itO_keep {H : Heap} {B : List Nat} {U : List (Nat × Nat)} {E : Nat} {s : Nat → Bool} {lst : Option Nat} (h : lookL U 52 = some 52) : ObLe H B U (itO E s lst) (itO E s lst) :=
  itLe rfl rfl rfl rfl (fun _ => .same) (.obj _ _ _ _ h rfl) (by cases lst with
    | none => exact .nils
    | some k => exact .same) fun _ => .nils
theorem itO_see {H : Heap} {B : List Nat} {U : List (Nat × Nat)} {E : Nat} {s : Nat → Bool} {lst : Option Nat} {k : Nat} (h : lookL U 52 = some 52) : ObLe H B U { itO E s lst with f := seeIt (itO E s lst).f k } (itO E (fun i => Nat.beq i k || s i) (some k)) := by
  refine itLe rfl rfl rfl rfl (fun i => ?_) (.obj _ _ _ _ h rfl) .same fun _ => .nils
  show VLe H B U (seeIt (itO E s lst).f k i 1) _
  unfold seeIt
  rw [Nat.beq_refl, Bool.true_and]
  cases Nat.beq i k with
  | true => exact .same
  | false =>
    show VLe H B U (bif Nat.beq i 1 && Nat.beq 1 0 then _ else _) _
    rw [show Nat.beq 1 0 = false from rfl, Bool.and_false]
    exact .same
theorem OLe.setW {H : Heap} {B : List Nat} {U : List (Nat × Nat)} {V : List Nat} {o : AO} {g i w : Nat} {gv : Nat → AV} (e1 : o.E = 39) (e2 : o.gen = g) (e3 : o.sz = 1) (e4 : o.n = V.length) (hf : o.f = setCells (rowA 39 1 wcell 0 g V).f i 0 1 gv) (h : VLe H B U (gv 0) (.pv (wcell w 0))) (hi : i < V.length) : OLe H B U o (rowA 39 1 wcell 0 g (V.set i w)) :=
  ⟨e1.symm, e2.symm, e3.symm, by show (V.set i w).length ≤ o.n; rw [List.length_set, e4]; exact Nat.le_refl _, fun a b _ hb => by
    rw [e3] at hb
    have hb0 : b = 0 := Nat.lt_one_iff.mp hb
    subst hb0
    rw [hf]
    have e5 : (rowA 39 1 wcell 0 g (V.set i w)).f a 0 = .pv (wcell ((V.set i w).getD a 0) 0) := rfl
    rw [e5, getD_set hi]
    unfold setCells
    by_cases e : a = i
    · subst e; rw [Nat.beq_refl, if_pos rfl]; exact h
    · rw [beqN_ne e, if_neg e]; exact .same⟩
theorem mp_f {α : Type} {es : List α} {g : Nat} {f : α → AV × AV} {i : Nat} (d : α) (hi : i < es.length) : (mpO g (es.map f)).f i 0 = (f (es.getD i d)).1 ∧ (mpO g (es.map f)).f i 1 = (f (es.getD i d)).2 := by
  have e : (es.map f).getD i (.nilS, .nilS) = f (es.getD i d) := by
    rw [List.getD_eq_getElem?_getD, List.getD_eq_getElem?_getD, List.getElem?_map, List.getElem?_eq_getElem hi]; rfl
  exact ⟨by rw [mpO_f0, e], by rw [mpO_f1, e]⟩
def CellsOk (l : List (Int × Nat)) : Prop := l.length < 2 ^ 46 ∧ ∀ c ∈ l, inI64 c.1 ∧ c.2 < 65536
theorem nums36 {p : List (Nat × Nat)} (h : p.all (fun c => decide (c.1 < 36864 ∧ c.2 < 32768)) = true) {m : Nat} (hm : m ∈ nums p) : m < 36 := by
  obtain ⟨c, hc, e⟩ := mem_nums.mp hm
  rw [List.all_eq_true] at h
  have := of_decide_eq_true (h c hc)
  omega
theorem fam52 {UA : List (Nat × Nat)} {b : Nat → Bool} {i : Nat} (hi : i < 200) (h : lookL UA i = none) : lookL (UA ++ famR 36 hun b) i = none := by
  rw [lookL_append, h]
  exact lookL_map_lt hi
theorem outX_in {H : Heap} {B : List Nat} {UA : List (Nat × Nat)} {p : List (Nat × Nat)} {n : Nat} (h : p.all (fun c => decide (c.1 < 36864 ∧ c.2 < 32768)) = true) (hl : low UA = true) (h52 : n ∈ nums p → lookL UA 52 = some (200 + n)) : ObLe H B (UA ++ famR 36 hun (inX p n)) (outX hun (nums p)) (outX (hunX n) (nums p)) :=
  outX_le fun m hm => by
    unfold hunX
    by_cases e : m = n
    · subst e; rw [if_pos rfl]; exact famR_head (h52 hm)
    · rw [if_neg e]; exact famR_look hl (nums36 h hm) (decide_eq_true ⟨hm, e⟩)
theorem lookX {UA : List (Nat × Nat)} {p : List (Nat × Nat)} {n : Nat} (h : p.all (fun c => decide (c.1 < 36864 ∧ c.2 < 32768)) = true) (hl : low UA = true) (h52 : lookL UA 52 = some 52) : ∀ m ∈ nums p, lookL (UA ++ famR 36 hun (inX p n)) (hunX n m) = some (hunX n m) := fun m hm => by
  unfold hunX
  by_cases e : m = n
  · subst e; rw [if_pos rfl]; exact famR_head h52
  · rw [if_neg e]; exact famR_look hl (nums36 h hm) (decide_eq_true ⟨hm, e⟩)
theorem lookN {UA : List (Nat × Nat)} {p : List (Nat × Nat)} {n : Nat} (h : p.all (fun c => decide (c.1 < 36864 ∧ c.2 < 32768)) = true) (hl : low UA = true) (hn : n ∉ nums p) : ∀ m ∈ nums p, lookL (UA ++ famR 36 hun (inX p n)) (hunX n m) = some (hunX n m) := fun m hm => by
  have e : m ≠ n := fun e => hn (e ▸ hm)
  unfold hunX
  rw [if_neg e]; exact famR_look hl (nums36 h hm) (decide_eq_true ⟨hm, e⟩)
theorem outX_keep {H : Heap} {B : List Nat} {UA : List (Nat × Nat)} {p : List (Nat × Nat)} (h : p.all (fun c => decide (c.1 < 36864 ∧ c.2 < 32768)) = true) (hl : low UA = true) : ObLe H B (UA ++ famR 36 hun (inP p)) (outX hun (nums p)) (outX hun (nums p)) :=
  outX_le fun _ hm => famR_look hl (nums36 h hm) (decide_eq_true hm)
set_option maxHeartbeats 4000000 in
theorem f16 (l : List (Int × Nat)) (hl : CellsOk l) (E z n : Nat) (f : Nat → Nat → PV) : PureCall Try.prog 16 [objA l E z n f] (objT (objR l)) := by
  have hlen := hl.1
  refine PureCall.body tab_ok (by kernel_rfl) Try.func16 rfl rfl rfl ?_
  refine awp_piece tab_ok mixed ?_
  conv => whnf
  repeat (first | ((with_reducible first | apply ga | apply gb | apply gc | apply gd | apply ge | apply gf | apply gg | apply gh | apply gi | apply gj); conv => whnf) | (refine ⟨⟨rfl, rfl, nle rfl, nle rfl⟩, ?_⟩; conv => whnf) | fail)
  refine awp_piece tab_ok mixed ?_
  conv => whnf
  repeat (first | ((with_reducible first | apply ga | apply gb | apply gc | apply gd | apply ge | apply gf | apply gg | apply gh | apply gi | apply gj); conv => whnf) | (refine ⟨⟨rfl, rfl, nle rfl, nle rfl⟩, ?_⟩; conv => whnf) | fail)
  refine awp_cut (α := Unit) (fun _ => mkSt 110 [(4, .obj 18 0)] ([(18, outX hun (nums (l.map natC)))] ++ fam 36 fun m => innO (inn (l.map natC) m))) (fun _ => scanE l [] = 0 ∧ (l.map natC).all (fun c => decide (c.1 < 36864 ∧ c.2 < 32768)) = true ∧ ((l.map natC).map (·.1)).Nodup) (fun K hK => ?_) ?_
  · refine awp_piece tab_ok mixed ?_
    conv => whnf
    repeat (first | ((with_reducible first | apply ga | apply gb | apply gc | apply gd | apply ge | apply gf | apply gg | apply gh | apply gi | apply gj); conv => whnf) | (refine ⟨⟨rfl, rfl, nle rfl, nle rfl⟩, ?_⟩; conv => whnf) | fail)
    refine awp_block (awp_loopI (fun k : Nat => k ≤ l.length ∧ scanE l [] = scanE (l.drop k) (((l.take k).map natC).map (·.1)) ∧ (((l.take k).map natC).all (fun c => decide (c.1 < 36864 ∧ c.2 < 32768)) = true ∧ (((l.take k).map natC).map (·.1)).Nodup))
      (fun k => mkSt 110 [(4, .obj 18 0), (20, .pv (cellsP l)), (21, i64 l.length), (22, i64 k)] ([(18, outX hun (nums ((l.take k).map natC)))] ++ fam 36 fun m => innO (inn ((l.take k).map natC) m))) (fun k => l.length - k) 0 ⟨Nat.zero_le _, rfl, rfl, List.nodup_nil⟩
      (SubS.mkF [] [(18, 18)] id (fun _ => false) rfl rfl rfl (fun _ _ _ _ h => by cases h) (fun _ _ _ _ h => by cases h) rfl ⟨⟨_, rfl, .obj _ _ _ _ rfl rfl⟩, ⟨_, rfl, .same⟩, ⟨_, rfl, .same⟩, ⟨_, rfl, .same⟩, trivial⟩
        ⟨.inr (.inr ⟨_, _, rfl, rfl, rfl, mpLe0 rfl rfl rfl rfl fun _ _ _ _ => rfl⟩), trivial⟩ (fun m hm => ⟨.inr (.inl ⟨famR_none rfl rfl, rfl⟩), trivial⟩)) ?_)
    rintro k ⟨hk, hI, hA, hN⟩
    obtain ⟨p, hp⟩ : ∃ p, (l.take k).map natC = p := ⟨_, rfl⟩
    rw [hp] at hI hA hN ⊢
    refine awp_piece tab_ok mixed ?_
    conv => whnf
    repeat (first | ((with_reducible first | apply ga | apply gb | apply gc | apply gd | apply ge | apply gf | apply gg | apply gh | apply gi | apply gj); conv => whnf) | (refine ⟨⟨rfl, rfl, nle rfl, nle rfl⟩, ?_⟩; conv => whnf) | fail)
    refine awp_piece tab_ok mixed ?_
    conv => whnf
    repeat (first | ((with_reducible first | apply ga | apply gb | apply gc | apply gd | apply ge | apply gf | apply gg | apply gh | apply gi | apply gj); conv => whnf) | (refine ⟨⟨rfl, rfl, nle rfl, nle rfl⟩, ?_⟩; conv => whnf) | fail)
    refine ⟨fun hc => ?_, fun hc => ?_⟩ <;> replace hc := nm hc <;> (try rw [Int.toNat_zero] at hc) <;> (try rw [Int.toNat_one] at hc)
    · have hlt : k < l.length := by omega
      obtain ⟨c, hce⟩ : ∃ c, l.getD k (0, 0) = c := ⟨_, rfl⟩
      have hcm : c ∈ l := by rw [← hce, List.getD_eq_getElem?_getD, List.getElem?_eq_getElem hlt]; exact List.getElem_mem hlt
      obtain ⟨hc1, hc2⟩ := hl.2 c hcm
      unfold inI64 at hc1
      rw [drop_getD (d := (0, 0)) hlt, hce, scanE] at hI
      have hbad : ∀ e : Int, scanE l [] = e → e ≠ 0 → objR l = ([], e) := fun e h1 h2 => by unfold objR; rw [h1, if_pos h2]
      have hp' : (l.take (k + 1)).map natC = p ++ [natC c] := by rw [take_sn (d := (0, 0)) hlt, List.map_append, hp, hce]; rfl
      conv => whnf
      repeat (first | ((with_reducible first | apply ga | apply gb | apply gc | apply gd | apply ge | apply gf | apply gg | apply gh | apply gi | apply gj); conv => whnf) | (refine ⟨⟨rfl, rfl, nle rfl, nle rfl⟩, ?_⟩; conv => whnf) | fail)
      refine awp_cut (α := Unit) (fun _ => mkSt 110 [(4, .obj 18 0), (20, .pv (cellsP l)), (21, i64 l.length), (22, i64 k)] ([(18, outX hun (nums (p ++ [natC c])))] ++ fam 36 fun m => innO (inn (p ++ [natC c]) m)))
        (fun _ => scanE l [] = scanE (l.drop (k + 1)) ((p ++ [natC c]).map (·.1)) ∧ (p ++ [natC c]).all (fun c => decide (c.1 < 36864 ∧ c.2 < 32768)) = true ∧ ((p ++ [natC c]).map (·.1)).Nodup) (fun K' hK' => awp_block ?_) ?_
      · refine awp_pieceM tab_ok mixed (mkSt 110 [(4, .obj 18 0), (6, .ptr 6 0 2 0 0), (20, .pv (cellsP l)), (21, i64 l.length), (22, i64 k)] ([(18, outX hun (nums p)), (6, cO c)] ++ fam 36 fun m => innO (inn p m))) True (fun K1 hK1 => ?_) fun _ => ?_
        · conv => whnf
          repeat (first | ((with_reducible first | apply ga | apply gb | apply gc | apply gd | apply ge | apply gf | apply gg | apply gh | apply gi | apply gj); conv => whnf) | (refine ⟨⟨rfl, rfl, nle rfl, nle rfl⟩, ?_⟩; conv => whnf) | fail)
          refine ⟨⟨by omega, by omega, rfl⟩, ?_⟩
          conv => whnf
          repeat (first | ((with_reducible first | apply ga | apply gb | apply gc | apply gd | apply ge | apply gf | apply gg | apply gh | apply gi | apply gj); conv => whnf) | (refine ⟨⟨rfl, rfl, nle rfl, nle rfl⟩, ?_⟩; conv => whnf) | fail)
          refine ⟨⟨by decide⟩, ?_⟩
          conv => whnf
          repeat (first | ((with_reducible first | apply ga | apply gb | apply gc | apply gd | apply ge | apply gf | apply gg | apply gh | apply gi | apply gj); conv => whnf) | (refine ⟨⟨rfl, rfl, nle rfl, nle rfl⟩, ?_⟩; conv => whnf) | fail)
          repeat (refine ⟨⟨rfl, rfl, nle rfl, nle rfl⟩, ?_⟩; conv => whnf)
          repeat (first | ((with_reducible first | apply ga | apply gb | apply gc | apply gd | apply ge | apply gf | apply gg | apply gh | apply gi | apply gj); conv => whnf) | (refine ⟨⟨rfl, rfl, nle rfl, nle rfl⟩, ?_⟩; conv => whnf) | fail)
          refine hK1 _ trivial (SubS.keepF [(18, 18), (6, 6)] (inP p) rfl rfl rfl rfl rfl (.upd (.upd (.base rfl) rfl) rfl) ⟨⟨_, rfl, .obj _ _ _ _ rfl rfl⟩, ⟨_, rfl, .ptr _ _ _ _ _ _ _ _ _ rfl rfl rfl rfl⟩, ⟨_, rfl, .same⟩, ⟨_, rfl, .same⟩, ⟨_, rfl, .same⟩, trivial⟩
            ⟨.inr (.inr ⟨_, _, rfl, rfl, rfl, outX_keep hA rfl⟩), .inl ⟨_, _, rfl, rfl, rfl, cLe rfl rfl rfl rfl ?_ ?_⟩, trivial⟩)
          · rw [← hce]; exact .same
          · rw [← hce]; exact .same
        · refine awp_pieceM tab_ok mixed (mkSt 110 [(4, .obj 18 0), (6, .ptr 6 0 2 0 0), (20, .pv (cellsP l)), (21, i64 l.length), (22, i64 k)] ([(18, outX hun (nums p)), (6, cO c)] ++ fam 36 fun m => innO (inn p m))) (0 ≤ c.1 ∧ c.1 ≤ 36863 ∧ c.2 ≤ 32767) (fun K1 hK1 => ?_) fun hok => ?_
          · conv => whnf
            repeat (first | ((with_reducible first | apply ga | apply gb | apply gc | apply gd | apply ge | apply gf | apply gg | apply gh | apply gi | apply gj); conv => whnf) | (refine ⟨⟨rfl, rfl, nle rfl, nle rfl⟩, ?_⟩; conv => whnf) | fail)
            repeat (refine ⟨⟨rfl, rfl, nle rfl, nle rfl⟩, ?_⟩; conv => whnf)
            repeat (first | ((with_reducible first | apply ga | apply gb | apply gc | apply gd | apply ge | apply gf | apply gg | apply gh | apply gi | apply gj); conv => whnf) | (refine ⟨⟨rfl, rfl, nle rfl, nle rfl⟩, ?_⟩; conv => whnf) | fail)
            refine ⟨fun hb1 => ?_, fun hb1 => ?_⟩ <;> replace hb1 := nm hb1 <;> (try rw [Int.toNat_zero] at hb1) <;> (try rw [Int.toNat_one] at hb1)
            · conv => whnf
              repeat (first | ((with_reducible first | apply ga | apply gb | apply gc | apply gd | apply ge | apply gf | apply gg | apply gh | apply gi | apply gj); conv => whnf) | (refine ⟨⟨rfl, rfl, nle rfl, nle rfl⟩, ?_⟩; conv => whnf) | fail)
              repeat (refine ⟨⟨rfl, rfl, nle rfl, nle rfl⟩, ?_⟩; conv => whnf)
              repeat (first | ((with_reducible first | apply ga | apply gb | apply gc | apply gd | apply ge | apply gf | apply gg | apply gh | apply gi | apply gj); conv => whnf) | (refine ⟨⟨rfl, rfl, nle rfl, nle rfl⟩, ?_⟩; conv => whnf) | fail)
              refine ⟨fun hb2 => ?_, fun hb2 => ?_⟩ <;> replace hb2 := nm hb2 <;> (try rw [Int.toNat_zero] at hb2) <;> (try rw [Int.toNat_one] at hb2)
              · conv => whnf
                repeat (first | ((with_reducible first | apply ga | apply gb | apply gc | apply gd | apply ge | apply gf | apply gg | apply gh | apply gi | apply gj); conv => whnf) | (refine ⟨⟨rfl, rfl, nle rfl, nle rfl⟩, ?_⟩; conv => whnf) | fail)
                repeat (refine ⟨⟨rfl, rfl, nle rfl, nle rfl⟩, ?_⟩; conv => whnf)
                repeat (first | ((with_reducible first | apply ga | apply gb | apply gc | apply gd | apply ge | apply gf | apply gg | apply gh | apply gi | apply gj); conv => whnf) | (refine ⟨⟨rfl, rfl, nle rfl, nle rfl⟩, ?_⟩; conv => whnf) | fail)
                refine ⟨fun hb3 => ?_, fun hb3 => ?_⟩ <;> replace hb3 := nm hb3 <;> (try rw [Int.toNat_zero] at hb3) <;> (try rw [Int.toNat_one] at hb3)
                · conv => whnf
                  repeat (first | ((with_reducible first | apply ga | apply gb | apply gc | apply gd | apply ge | apply gf | apply gg | apply gh | apply gi | apply gj); conv => whnf) | (refine ⟨⟨rfl, rfl, nle rfl, nle rfl⟩, ?_⟩; conv => whnf) | fail)
                  rw [hbad 3 (by rw [hI, if_pos (show badC c by unfold badC; omega)]) (by decide)]
                  exact done_tup [.pv (banksP []), i64 3] [] rfl ⟨VLe.nilA, .same, trivial⟩
                · conv => whnf
                  repeat (first | ((with_reducible first | apply ga | apply gb | apply gc | apply gd | apply ge | apply gf | apply gg | apply gh | apply gi | apply gj); conv => whnf) | (refine ⟨⟨rfl, rfl, nle rfl, nle rfl⟩, ?_⟩; conv => whnf) | fail)
                  exact hK1 _ (by omega) (SubS.keepF [(18, 18), (6, 6)] (inP p) rfl rfl rfl rfl rfl (.base rfl) ⟨⟨_, rfl, .obj _ _ _ _ rfl rfl⟩, ⟨_, rfl, .ptr _ _ _ _ _ _ _ _ _ rfl rfl rfl rfl⟩, ⟨_, rfl, .same⟩, ⟨_, rfl, .same⟩, ⟨_, rfl, .same⟩, trivial⟩
              ⟨.inr (.inr ⟨_, _, rfl, rfl, rfl, outX_keep hA rfl⟩), .inl ⟨_, _, rfl, rfl, rfl, cLe rfl rfl rfl rfl .same .same⟩, trivial⟩)
              · conv => whnf
                repeat (first | ((with_reducible first | apply ga | apply gb | apply gc | apply gd | apply ge | apply gf | apply gg | apply gh | apply gi | apply gj); conv => whnf) | (refine ⟨⟨rfl, rfl, nle rfl, nle rfl⟩, ?_⟩; conv => whnf) | fail)
                rw [hbad 3 (by rw [hI, if_pos (show badC c by unfold badC; omega)]) (by decide)]
                exact done_tup [.pv (banksP []), i64 3] [] rfl ⟨VLe.nilA, .same, trivial⟩
            · conv => whnf
              repeat (first | ((with_reducible first | apply ga | apply gb | apply gc | apply gd | apply ge | apply gf | apply gg | apply gh | apply gi | apply gj); conv => whnf) | (refine ⟨⟨rfl, rfl, nle rfl, nle rfl⟩, ?_⟩; conv => whnf) | fail)
              rw [hbad 3 (by rw [hI, if_pos (show badC c by unfold badC; omega)]) (by decide)]
              exact done_tup [.pv (banksP []), i64 3] [] rfl ⟨VLe.nilA, .same, trivial⟩
          · have hnb : ¬ badC c := by unfold badC; omega
            rw [if_neg hnb] at hI
            obtain ⟨a, ha⟩ : ∃ a, c.1.toNat = a := ⟨_, rfl⟩
            have hca : c.1 = (a : Int) := by omega
            have hnc : natC c = (a, c.2) := by unfold natC; rw [ha]
            rw [ha] at hI
            rw [hnc] at hK'
            have hq : c.1.tdiv 1024 = ((a / 1024 : Nat) : Int) := by rw [hca]; rfl
            have hr : c.1.tmod 1024 = ((a % 1024 : Nat) : Int) := by rw [hca]; rfl
            have hn36 : a / 1024 < 36 := by omega
            obtain ⟨n, hn⟩ : ∃ n, a / 1024 = n := ⟨_, rfl⟩
            obtain ⟨o, ho⟩ : ∃ o, a % 1024 = o := ⟨_, rfl⟩
            rw [hn] at hq hn36
            rw [ho] at hr
            refine awp_pieceM tab_ok mixed (mkSt 110 [(4, .obj 18 0), (6, .ptr 6 0 2 0 0), (7, i64 n), (8, i64 o), (20, .pv (cellsP l)), (21, i64 l.length), (22, i64 k)] ([(18, outX (hunX n) (nums p)), (52, innO (inn p n)), (6, cO c)] ++ fam 36 fun m => innO (inn p m))) True (fun K1 hK1 => ?_) fun _ => ?_
            · conv => whnf
              repeat (first | ((with_reducible first | apply ga | apply gb | apply gc | apply gd | apply ge | apply gf | apply gg | apply gh | apply gi | apply gj); conv => whnf) | (refine ⟨⟨rfl, rfl, nle rfl, nle rfl⟩, ?_⟩; conv => whnf) | fail)
              repeat (refine ⟨⟨rfl, rfl, nle rfl, nle rfl⟩, ?_⟩; conv => whnf)
              repeat (first | ((with_reducible first | apply ga | apply gb | apply gc | apply gd | apply ge | apply gf | apply gg | apply gh | apply gi | apply gj); conv => whnf) | (refine ⟨⟨rfl, rfl, nle rfl, nle rfl⟩, ?_⟩; conv => whnf) | fail)
              refine ⟨⟨by decide, by rw [hq]; unfold inI64; omega⟩, ?_⟩
              conv => whnf
              repeat (first | ((with_reducible first | apply ga | apply gb | apply gc | apply gd | apply ge | apply gf | apply gg | apply gh | apply gi | apply gj); conv => whnf) | (refine ⟨⟨rfl, rfl, nle rfl, nle rfl⟩, ?_⟩; conv => whnf) | fail)
              repeat (refine ⟨⟨rfl, rfl, nle rfl, nle rfl⟩, ?_⟩; conv => whnf)
              repeat (first | ((with_reducible first | apply ga | apply gb | apply gc | apply gd | apply ge | apply gf | apply gg | apply gh | apply gi | apply gj); conv => whnf) | (refine ⟨⟨rfl, rfl, nle rfl, nle rfl⟩, ?_⟩; conv => whnf) | fail)
              refine ⟨⟨by decide⟩, ?_⟩
              conv => whnf
              repeat (first | ((with_reducible first | apply ga | apply gb | apply gc | apply gd | apply ge | apply gf | apply gg | apply gh | apply gi | apply gj); conv => whnf) | (refine ⟨⟨rfl, rfl, nle rfl, nle rfl⟩, ?_⟩; conv => whnf) | fail)
              refine ⟨rfl, ?_⟩
              conv => whnf
              repeat (first | ((with_reducible first | apply ga | apply gb | apply gc | apply gd | apply ge | apply gf | apply gg | apply gh | apply gi | apply gj); conv => whnf) | (refine ⟨⟨rfl, rfl, nle rfl, nle rfl⟩, ?_⟩; conv => whnf) | fail)
              by_cases hin : n ∈ nums p
              · exact hK1 _ trivial (SubS.inF n [(18, 18), (6, 6)] (inX p n) (fun m h => (of_decide_eq_true h).2) rfl rfl rfl rfl rfl (.base rfl) ⟨⟨_, rfl, .obj _ _ _ _ rfl rfl⟩, ⟨_, rfl, .ptr _ _ _ _ _ _ _ _ _ rfl rfl rfl rfl⟩, ⟨_, rfl, VLe.int hq⟩, ⟨_, rfl, VLe.int hr⟩, ⟨_, rfl, .same⟩, ⟨_, rfl, .same⟩, ⟨_, rfl, .same⟩, trivial⟩
                  ⟨.inr (.inr ⟨_, _, rfl, rfl, rfl, outX_in hA rfl fun _ => rfl⟩), .inr (.inr ⟨200 + n, innO (inn p n), rfl, HFam.base rfl n hn36, rfl, innO_le⟩), .inl ⟨_, _, rfl, rfl, rfl, cLe rfl rfl rfl rfl .same .same⟩, trivial⟩)
              · exact hK1 _ trivial (SubS.keepF [(18, 18), (6, 6)] (inX p n) rfl rfl rfl rfl rfl (.base rfl) ⟨⟨_, rfl, .obj _ _ _ _ rfl rfl⟩, ⟨_, rfl, .ptr _ _ _ _ _ _ _ _ _ rfl rfl rfl rfl⟩, ⟨_, rfl, VLe.int hq⟩, ⟨_, rfl, VLe.int hr⟩, ⟨_, rfl, .same⟩, ⟨_, rfl, .same⟩, ⟨_, rfl, .same⟩, trivial⟩
                  ⟨.inr (.inr ⟨_, _, rfl, rfl, rfl, outX_in hA rfl fun h => absurd h hin⟩), .inr (.inl ⟨fam52 (by decide) rfl, rfl⟩), .inl ⟨_, _, rfl, rfl, rfl, cLe rfl rfl rfl rfl .same .same⟩, trivial⟩)
            · -- the bank's map, made if it was not there
              refine awp_pieceM tab_ok mixed (mkSt 110 [(4, .obj 18 0), (6, .ptr 6 0 2 0 0), (7, i64 n), (8, i64 o), (20, .pv (cellsP l)), (21, i64 l.length), (22, i64 k)] ([(18, outX (hunX n) (nums (p ++ [(a, c.2)]))), (52, innO (inn p n)), (6, cO c)] ++ fam 36 fun m => innO (inn p m))) True (fun K1 hK1 => ?_) fun _ => ?_
              · conv => whnf
                repeat (first | ((with_reducible first | apply ga | apply gb | apply gc | apply gd | apply ge | apply gf | apply gg | apply gh | apply gi | apply gj); conv => whnf) | (refine ⟨⟨rfl, rfl, nle rfl, nle rfl⟩, ?_⟩; conv => whnf) | fail)
                refine ⟨fun i hi he => ?_, fun hno => ?_⟩
                · obtain ⟨hin, hv⟩ := outX_at hi he
                  rw [hv, show hunX n n = 52 from if_pos rfl]
                  conv => whnf
                  repeat (first | ((with_reducible first | apply ga | apply gb | apply gc | apply gd | apply ge | apply gf | apply gg | apply gh | apply gi | apply gj); conv => whnf) | (refine ⟨⟨rfl, rfl, nle rfl, nle rfl⟩, ?_⟩; conv => whnf) | fail)
                  repeat (first | ((with_reducible first | apply ga | apply gb | apply gc | apply gd | apply ge | apply gf | apply gg | apply gh | apply gi | apply gj); conv => whnf) | (refine ⟨⟨rfl, rfl, nle rfl, nle rfl⟩, ?_⟩; conv => whnf) | (refine ⟨fun _ => ?_, fun h => absurd h (by decide)⟩; conv => whnf) | (refine ⟨fun h => absurd h (by decide), fun _ => ?_⟩; conv => whnf) | fail)
                  have hnn : nums (p ++ [(a, c.2)]) = nums p := by rw [nums_sn]; unfold addN; rw [show (a, c.2).1 / 1024 = n from hn, if_pos hin]
                  rw [hnn] at hK1
                  exact hK1 _ trivial (SubS.keepF [(18, 18), (52, 52), (6, 6)] (inX p n) rfl rfl rfl rfl rfl (.base rfl) ⟨⟨_, rfl, .obj _ _ _ _ rfl rfl⟩, ⟨_, rfl, .ptr _ _ _ _ _ _ _ _ _ rfl rfl rfl rfl⟩, ⟨_, rfl, .same⟩, ⟨_, rfl, .same⟩, ⟨_, rfl, .same⟩, ⟨_, rfl, .same⟩, ⟨_, rfl, .same⟩, trivial⟩
                    ⟨.inr (.inr ⟨_, _, rfl, rfl, rfl, outX_le (lookX hA rfl rfl)⟩), .inr (.inr ⟨_, _, rfl, rfl, rfl, innO_le⟩), .inl ⟨_, _, rfl, rfl, rfl, cLe rfl rfl rfl rfl .same .same⟩, trivial⟩)
                · have hni := outX_no hno
                  have hnn : nums (p ++ [(a, c.2)]) = nums p ++ [n] := by rw [nums_sn]; unfold addN; rw [show (a, c.2).1 / 1024 = n from hn, if_neg hni]
                  rw [hnn] at hK1
                  conv => whnf
                  repeat (first | ((with_reducible first | apply ga | apply gb | apply gc | apply gd | apply ge | apply gf | apply gg | apply gh | apply gi | apply gj); conv => whnf) | (refine ⟨⟨rfl, rfl, nle rfl, nle rfl⟩, ?_⟩; conv => whnf) | fail)
                  repeat (first | ((with_reducible first | apply ga | apply gb | apply gc | apply gd | apply ge | apply gf | apply gg | apply gh | apply gi | apply gj); conv => whnf) | (refine ⟨⟨rfl, rfl, nle rfl, nle rfl⟩, ?_⟩; conv => whnf) | (refine ⟨fun _ => ?_, fun h => absurd h (by decide)⟩; conv => whnf) | (refine ⟨fun h => absurd h (by decide), fun _ => ?_⟩; conv => whnf) | fail)
                  refine ⟨fun i hi he => absurd (outX_at hi he).1 hni, fun _ => ?_⟩
                  conv => whnf
                  repeat (first | ((with_reducible first | apply ga | apply gb | apply gc | apply gd | apply ge | apply gf | apply gg | apply gh | apply gi | apply gj); conv => whnf) | (refine ⟨⟨rfl, rfl, nle rfl, nle rfl⟩, ?_⟩; conv => whnf) | fail)
                  refine hK1 _ trivial (SubS.keepF [(18, 18), (52, 51), (6, 6)] (inX p n) rfl rfl rfl rfl rfl (.upd (.upd (.base rfl) rfl) rfl) ⟨⟨_, rfl, .obj _ _ _ _ rfl rfl⟩, ⟨_, rfl, .ptr _ _ _ _ _ _ _ _ _ rfl rfl rfl rfl⟩, ⟨_, rfl, .same⟩, ⟨_, rfl, .same⟩, ⟨_, rfl, .same⟩, ⟨_, rfl, .same⟩, ⟨_, rfl, .same⟩, trivial⟩
                    ⟨.inr (.inr ⟨_, _, rfl, rfl, rfl, outX_push (lookN hA rfl hni) ?_⟩), .inr (.inr ⟨_, _, rfl, rfl, rfl, ?_⟩), .inl ⟨_, _, rfl, rfl, rfl, cLe rfl rfl rfl rfl .same .same⟩, trivial⟩)
                  · rw [show hunX n n = 52 from if_pos rfl]; rfl
                  · rw [inn_nil hni]; exact mpLe0 rfl rfl rfl rfl fun _ _ _ _ => rfl
              · -- the cell is put down
                have hA' : (p ++ [(a, c.2)]).all (fun c => decide (c.1 < 36864 ∧ c.2 < 32768)) = true := by
                  rw [List.all_append, hA]
                  simp; omega
                have hnin : n ∈ nums (p ++ [(a, c.2)]) := mem_nums.mpr ⟨(a, c.2), by simp, hn⟩
                refine awp_piece tab_ok mixed ?_
                conv => whnf
                repeat (first | ((with_reducible first | apply ga | apply gb | apply gc | apply gd | apply ge | apply gf | apply gg | apply gh | apply gi | apply gj); conv => whnf) | (refine ⟨⟨rfl, rfl, nle rfl, nle rfl⟩, ?_⟩; conv => whnf) | fail)
                refine ⟨fun i hi he => ?_, fun hno => absurd hnin (outX_no hno)⟩
                obtain ⟨_, hv⟩ := outX_at hi he
                rw [hv, show hunX n n = 52 from if_pos rfl]
                conv => whnf
                repeat (first | ((with_reducible first | apply ga | apply gb | apply gc | apply gd | apply ge | apply gf | apply gg | apply gh | apply gi | apply gj); conv => whnf) | (refine ⟨⟨rfl, rfl, nle rfl, nle rfl⟩, ?_⟩; conv => whnf) | fail)
                refine ⟨fun i hi he => ?_, fun hno => ?_⟩
                · obtain ⟨q, hq, hqo⟩ := innO_at hi he
                  have hain : a ∈ p.map (·.1) := inn_at.mp ⟨q, by rw [hn]; exact hq, by rw [ho]; exact hqo⟩
                  conv => whnf
                  repeat (first | ((with_reducible first | apply ga | apply gb | apply gc | apply gd | apply ge | apply gf | apply gg | apply gh | apply gi | apply gj); conv => whnf) | (refine ⟨⟨rfl, rfl, nle rfl, nle rfl⟩, ?_⟩; conv => whnf) | fail)
                  repeat (first | ((with_reducible first | apply ga | apply gb | apply gc | apply gd | apply ge | apply gf | apply gg | apply gh | apply gi | apply gj); conv => whnf) | (refine ⟨⟨rfl, rfl, nle rfl, nle rfl⟩, ?_⟩; conv => whnf) | (refine ⟨fun _ => ?_, fun h => absurd h (by decide)⟩; conv => whnf) | (refine ⟨fun h => absurd h (by decide), fun _ => ?_⟩; conv => whnf) | fail)
                  rw [hbad 8 (by rw [hI, if_pos hain]) (by decide)]
                  exact done_tup [.pv (banksP []), i64 8] [] rfl ⟨VLe.nilA, .same, trivial⟩
                · have hnot := innO_no hno
                  have hain : a ∉ p.map (·.1) := fun h => by
                    obtain ⟨q, hq, hqo⟩ := inn_at.mpr h
                    rw [hn] at hq; rw [ho] at hqo
                    exact hnot q hq hqo
                  rw [if_neg hain] at hI
                  conv => whnf
                  repeat (first | ((with_reducible first | apply ga | apply gb | apply gc | apply gd | apply ge | apply gf | apply gg | apply gh | apply gi | apply gj); conv => whnf) | (refine ⟨⟨rfl, rfl, nle rfl, nle rfl⟩, ?_⟩; conv => whnf) | fail)
                  repeat (first | ((with_reducible first | apply ga | apply gb | apply gc | apply gd | apply ge | apply gf | apply gg | apply gh | apply gi | apply gj); conv => whnf) | (refine ⟨⟨rfl, rfl, nle rfl, nle rfl⟩, ?_⟩; conv => whnf) | (refine ⟨fun _ => ?_, fun h => absurd h (by decide)⟩; conv => whnf) | (refine ⟨fun h => absurd h (by decide), fun _ => ?_⟩; conv => whnf) | fail)
                  refine awp_last tab_ok mixed ?_
                  conv => whnf
                  repeat (first | ((with_reducible first | apply ga | apply gb | apply gc | apply gd | apply ge | apply gf | apply gg | apply gh | apply gi | apply gj); conv => whnf) | (refine ⟨⟨rfl, rfl, nle rfl, nle rfl⟩, ?_⟩; conv => whnf) | fail)
                  refine ⟨fun i hi he => ?_, fun hno => absurd hnin (outX_no hno)⟩
                  obtain ⟨_, hv⟩ := outX_at hi he
                  rw [hv, show hunX n n = 52 from if_pos rfl]
                  conv => whnf
                  repeat (first | ((with_reducible first | apply ga | apply gb | apply gc | apply gd | apply ge | apply gf | apply gg | apply gh | apply gi | apply gj); conv => whnf) | (refine ⟨⟨rfl, rfl, nle rfl, nle rfl⟩, ?_⟩; conv => whnf) | fail)
                  repeat (refine ⟨⟨rfl, rfl, nle rfl, nle rfl⟩, ?_⟩; conv => whnf)
                  repeat (first | ((with_reducible first | apply ga | apply gb | apply gc | apply gd | apply ge | apply gf | apply gg | apply gh | apply gi | apply gj); conv => whnf) | (refine ⟨⟨rfl, rfl, nle rfl, nle rfl⟩, ?_⟩; conv => whnf) | fail)
                  refine ⟨fun i hi he => ?_, fun _ => ?_⟩
                  · obtain ⟨q, hq, hqo⟩ := innO_at hi he
                    exact absurd hqo (hnot q hq)
                  conv => whnf
                  repeat (first | ((with_reducible first | apply ga | apply gb | apply gc | apply gd | apply ge | apply gf | apply gg | apply gh | apply gi | apply gj); conv => whnf) | (refine ⟨⟨rfl, rfl, nle rfl, nle rfl⟩, ?_⟩; conv => whnf) | fail)
                  refine hK' _ () ⟨?_, hA', ?_⟩ (SubS.outF [] n [(18, 18)] (inP (p ++ [(a, c.2)])) rfl rfl rfl rfl rfl rfl (G := fun m => inn p m) (.upd (.base rfl) rfl) (fun m hm => ?_) (fun _ => ⟨_, rfl, ?_⟩) ⟨⟨_, rfl, .obj _ _ _ _ rfl rfl⟩, ⟨_, rfl, .same⟩, ⟨_, rfl, .same⟩, ⟨_, rfl, .same⟩, trivial⟩
                    ⟨.inr (.inr ⟨_, _, rfl, rfl, rfl, outX_le fun m hm => famR_look rfl (nums36 hA' hm) (decide_eq_true hm)⟩), trivial⟩)
                  · rw [hI, List.map_append]; rfl
                  · rw [List.map_append, List.nodup_append]
                    exact ⟨hN, by simp, fun x hx y hy e => hain (by rw [List.map_singleton, List.mem_singleton] at hy; subst hy; subst e; exact hx)⟩
                  · rw [inn_sn, if_neg (by rw [show (a, c.2).1 / 1024 = n from hn]; exact fun e => hm e.symm)]
                  · rw [inn_sn, if_pos (show (a, c.2).1 / 1024 = n from hn), show (a, c.2).1 % 1024 = o from ho]
                    exact innO_push .same
      · rintro - ⟨h1, h2, h3⟩
        refine awp_last tab_ok mixed ?_
        conv => whnf
        repeat (first | ((with_reducible first | apply ga | apply gb | apply gc | apply gd | apply ge | apply gf | apply gg | apply gh | apply gi | apply gj); conv => whnf) | (refine ⟨⟨rfl, rfl, nle rfl, nle rfl⟩, ?_⟩; conv => whnf) | fail)
        refine ⟨⟨by unfold inI64; omega⟩, ?_⟩
        conv => whnf
        repeat (first | ((with_reducible first | apply ga | apply gb | apply gc | apply gd | apply ge | apply gf | apply gg | apply gh | apply gi | apply gj); conv => whnf) | (refine ⟨⟨rfl, rfl, nle rfl, nle rfl⟩, ?_⟩; conv => whnf) | fail)
        refine ⟨k + 1, ⟨hlt, by rw [hp']; exact h1, by rw [hp']; exact h2, by rw [hp']; exact h3⟩, ?_, by omega⟩
        rw [hp']
        exact SubS.keepF [(18, 18)] (inP (p ++ [natC c])) rfl rfl rfl rfl rfl (.base rfl) ⟨⟨_, rfl, .obj _ _ _ _ rfl rfl⟩, ⟨_, rfl, .same⟩, ⟨_, rfl, .same⟩, ⟨_, rfl, .same⟩, trivial⟩ ⟨.inr (.inr ⟨_, _, rfl, rfl, rfl, outX_keep h2 rfl⟩), trivial⟩
    · obtain rfl : k = l.length := by omega
      rw [List.take_of_length_le (Nat.le_refl _)] at hp
      subst hp
      rw [List.drop_eq_nil_of_le (Nat.le_refl _), scanE] at hI
      conv => whnf
      repeat (first | ((with_reducible first | apply ga | apply gb | apply gc | apply gd | apply ge | apply gf | apply gg | apply gh | apply gi | apply gj); conv => whnf) | (refine ⟨⟨rfl, rfl, nle rfl, nle rfl⟩, ?_⟩; conv => whnf) | fail)
      exact hK _ () ⟨hI, hA, hN⟩ (SubS.keepF [(18, 18)] (inP _) rfl rfl rfl rfl rfl (.base rfl) ⟨⟨_, rfl, .obj _ _ _ _ rfl rfl⟩, trivial⟩ ⟨.inr (.inr ⟨_, _, rfl, rfl, rfl, outX_keep hA rfl⟩), trivial⟩)
  · rintro - ⟨hI, hA, hN⟩
    have hres : objR l = (banksO (l.map natC), 0) := by unfold objR; rw [hI, if_neg (by decide)]
    rw [hres]
    obtain ⟨p, hp⟩ : ∃ p, l.map natC = p := ⟨_, rfl⟩
    rw [hp] at hA hN ⊢
    refine awp_piece tab_ok mixed ?_
    conv => whnf
    repeat (first | ((with_reducible first | apply ga | apply gb | apply gc | apply gd | apply ge | apply gf | apply gg | apply gh | apply gi | apply gj); conv => whnf) | (refine ⟨⟨rfl, rfl, nle rfl, nle rfl⟩, ?_⟩; conv => whnf) | fail)
    obtain ⟨Ls, hLs⟩ : ∃ Ls, (List.range 36).filter (fun n => decide (n ∈ nums p)) = Ls := ⟨_, rfl⟩
    have hperm := filter_range (nums_nodup p) (fun n hn => nums36 hA hn)
    rw [hLs] at hperm
    have hbk : banksO p = Ls.map fun n : Nat => ⟨(n : Int), wordsO (inn p n)⟩ := by unfold banksO; rw [hLs]
    have hLin : ∀ n, n ∈ Ls ↔ n ∈ nums p := fun n => hperm.1.mem_iff
    have hLl : Ls.length ≤ 36 := by rw [← hLs]; exact Nat.le_trans (List.length_filter_le _ _) (by simp)
    have hnl : (nums p).length = Ls.length := hperm.1.length_eq.symm
    refine awp_cut (α := Nat) (fun g => mkSt 110 [(11, .row 150 g 2 0 (banksO p).length)] [(150, rowA 35 2 BankR.p b0 g (banksO p))]) (fun _ => True) (fun K hK => ?_) ?_
    · refine awp_piece tab_ok mixed ?_
      conv => whnf
      repeat (first | ((with_reducible first | apply ga | apply gb | apply gc | apply gd | apply ge | apply gf | apply gg | apply gh | apply gi | apply gj); conv => whnf) | (refine ⟨⟨rfl, rfl, nle rfl, nle rfl⟩, ?_⟩; conv => whnf) | fail)
      refine f34k 151 rfl ?_
      conv => whnf
      repeat (first | ((with_reducible first | apply ga | apply gb | apply gc | apply gd | apply ge | apply gf | apply gg | apply gh | apply gi | apply gj); conv => whnf) | (refine ⟨⟨rfl, rfl, nle rfl, nle rfl⟩, ?_⟩; conv => whnf) | fail)
      refine sortedK sorted62 (id := 151) rfl rfl rfl rfl rfl (nums p) Ls (List.length_map ..) (fun i hi => (mp_f 0 hi).1) (fun n hn => by have := nums36 hA hn; omega) (by omega) hperm.1 hperm.2 ?_
      conv => whnf
      repeat (first | ((with_reducible first | apply ga | apply gb | apply gc | apply gd | apply ge | apply gf | apply gg | apply gh | apply gi | apply gj); conv => whnf) | (refine ⟨⟨rfl, rfl, nle rfl, nle rfl⟩, ?_⟩; conv => whnf) | fail)
      refine awp_block (awp_loopI (fun x : Nat × Nat => x.1 ≤ Ls.length)
        (fun x => mkSt 110 [(4, .obj 18 0), (11, .row 150 x.2 2 0 ((banksO p).take x.1).length), (70, .pv (intsP Ls)), (71, i64 Ls.length), (72, i64 x.1)] ([(18, outX hun (nums p)), (150, rowA 35 2 BankR.p b0 x.2 ((banksO p).take x.1))] ++ fam 36 fun m => innO (inn p m))) (fun x => Ls.length - x.1) (0, 0) (Nat.zero_le _)
        (SubS.keepF [(18, 18)] (inP p) rfl rfl rfl rfl rfl (.upd (.base rfl) rfl) ⟨⟨_, rfl, .obj _ _ _ _ rfl rfl⟩, ⟨_, rfl, .void _ _ _⟩, ⟨_, rfl, .same⟩, ⟨_, rfl, .same⟩, ⟨_, rfl, .same⟩, trivial⟩
          ⟨.inr (.inr ⟨_, _, rfl, rfl, rfl, outX_keep hA rfl⟩), .inr (.inl ⟨fam52 (by decide) rfl, rfl⟩), trivial⟩) ?_)
      rintro ⟨i, g⟩ hi
      dsimp only at hi ⊢
      refine awp_piece tab_ok mixed ?_
      conv => whnf
      repeat (first | ((with_reducible first | apply ga | apply gb | apply gc | apply gd | apply ge | apply gf | apply gg | apply gh | apply gi | apply gj); conv => whnf) | (refine ⟨⟨rfl, rfl, nle rfl, nle rfl⟩, ?_⟩; conv => whnf) | fail)
      refine awp_piece tab_ok mixed ?_
      conv => whnf
      repeat (first | ((with_reducible first | apply ga | apply gb | apply gc | apply gd | apply ge | apply gf | apply gg | apply gh | apply gi | apply gj); conv => whnf) | (refine ⟨⟨rfl, rfl, nle rfl, nle rfl⟩, ?_⟩; conv => whnf) | fail)
      refine ⟨fun hc => ?_, fun hc => ?_⟩ <;> replace hc := nm hc <;> (try rw [Int.toNat_zero] at hc) <;> (try rw [Int.toNat_one] at hc)
      · have hlt : i < Ls.length := by omega
        obtain ⟨n, hn⟩ : ∃ n, Ls.getD i 0 = n := ⟨_, rfl⟩
        have hnL : n ∈ Ls := by rw [← hn, List.getD_eq_getElem?_getD, List.getElem?_eq_getElem hlt]; exact List.getElem_mem hlt
        have hnin := (hLin n).mp hnL
        have hn36 := nums36 hA hnin
        obtain ⟨e, he⟩ : ∃ e, inn p n = e := ⟨_, rfl⟩
        have hene : e ≠ [] := by rw [← he]; exact inn_ne hnin
        have hend := inn_nodup hN n
        rw [he] at hend
        have helt : ∀ o ∈ e.map (·.1), o < 1024 := by rw [← he]; exact inn_lt
        have hew : ∀ q ∈ e, q.2 < 32768 := fun q hq => by
          rw [← he] at hq
          obtain ⟨d, hd, _, rfl⟩ := mem_inn.mp hq
          rw [List.all_eq_true] at hA
          exact (of_decide_eq_true (hA d hd)).2
        obtain ⟨Os, hOs⟩ : ∃ Os, (List.range 1024).filter (fun o => decide (o ∈ e.map (·.1))) = Os := ⟨_, rfl⟩
        have hop := filter_range hend helt
        rw [hOs] at hop
        have hOl : Os.length ≤ 1024 := by rw [← hOs]; exact Nat.le_trans (List.length_filter_le _ _) (by simp)
        have hel : e.length = Os.length := by rw [hop.1.length_eq, List.length_map]
        have hO0 : 0 < Os.length := by rw [← hel]; exact List.length_pos_iff.mpr hene
        have htop := last_top hene hop.1 hop.2
        have ht1 : topO e < 1024 := by
          obtain ⟨q, hq, e1⟩ := top_in hene
          rw [← e1]; exact helt _ (List.mem_map.mpr ⟨q, hq, rfl⟩)
        conv => whnf
        repeat (first | ((with_reducible first | apply ga | apply gb | apply gc | apply gd | apply ge | apply gf | apply gg | apply gh | apply gi | apply gj); conv => whnf) | (refine ⟨⟨rfl, rfl, nle rfl, nle rfl⟩, ?_⟩; conv => whnf) | fail)
        refine awp_cut (α := Nat) (fun g' => mkSt 110 [(4, .obj 18 0), (11, .row 150 g' 2 0 ((banksO p).take (i + 1)).length), (70, .pv (intsP Ls)), (71, i64 Ls.length), (72, i64 i)] ([(18, outX hun (nums p)), (150, rowA 35 2 BankR.p b0 g' ((banksO p).take (i + 1)))] ++ fam 36 fun m => innO (inn p m))) (fun _ => True) (fun K' hK' => awp_block ?_) ?_
        · refine awp_pieceM tab_ok mixed (mkSt 110 [(4, .obj 18 0), (11, .row 150 g 2 0 ((banksO p).take i).length), (13, i64 n), (70, .pv (intsP Ls)), (71, i64 Ls.length), (72, i64 i)] ([(18, outX (hunX n) (nums p)), (52, innO e), (150, rowA 35 2 BankR.p b0 g ((banksO p).take i))] ++ fam 36 fun m => innO (inn p m))) True (fun K1 hK1 => ?_) fun _ => ?_
          · conv => whnf
            repeat (first | ((with_reducible first | apply ga | apply gb | apply gc | apply gd | apply ge | apply gf | apply gg | apply gh | apply gi | apply gj); conv => whnf) | (refine ⟨⟨rfl, rfl, nle rfl, nle rfl⟩, ?_⟩; conv => whnf) | fail)
            refine ⟨⟨by omega, by omega, rfl⟩, ?_⟩
            conv => whnf
            repeat (first | ((with_reducible first | apply ga | apply gb | apply gc | apply gd | apply ge | apply gf | apply gg | apply gh | apply gi | apply gj); conv => whnf) | (refine ⟨⟨rfl, rfl, nle rfl, nle rfl⟩, ?_⟩; conv => whnf) | fail)
            refine ⟨⟨by decide⟩, ?_⟩
            conv => whnf
            repeat (first | ((with_reducible first | apply ga | apply gb | apply gc | apply gd | apply ge | apply gf | apply gg | apply gh | apply gi | apply gj); conv => whnf) | (refine ⟨⟨rfl, rfl, nle rfl, nle rfl⟩, ?_⟩; conv => whnf) | fail)
            refine hK1 _ trivial (SubS.inF n [(18, 18), (150, 150)] (inX p n) (fun m h => (of_decide_eq_true h).2) rfl rfl rfl rfl rfl (.base rfl) ⟨⟨_, rfl, .obj _ _ _ _ rfl rfl⟩, ⟨_, rfl, .row _ _ _ _ _ _ _ _ _ rfl rfl rfl rfl⟩, ⟨_, rfl, VLe.int ?_⟩, ⟨_, rfl, .same⟩, ⟨_, rfl, .same⟩, ⟨_, rfl, .same⟩, trivial⟩
              ⟨.inr (.inr ⟨_, _, rfl, rfl, rfl, outX_in hA rfl fun _ => rfl⟩), .inr (.inr ⟨200 + n, innO (inn p n), rfl, HFam.base rfl n hn36, rfl, ?_⟩), .inl ⟨_, _, rfl, rfl, rfl, .keepA⟩, trivial⟩)
            · rw [Int.toNat_natCast, hn]
            · rw [he]; exact innO_le
          · refine awp_pieceM tab_ok mixed (mkSt 110 [(4, .obj 18 0), (11, .row 150 g 2 0 ((banksO p).take i).length), (13, i64 n), (14, .pv (intsP Os)), (70, .pv (intsP Ls)), (71, i64 Ls.length), (72, i64 i)] ([(18, outX (hunX n) (nums p)), (52, innO e), (150, rowA 35 2 BankR.p b0 g ((banksO p).take i))] ++ fam 36 fun m => innO (inn p m))) True (fun K1 hK1 => ?_) fun _ => ?_
            · conv => whnf
              repeat (first | ((with_reducible first | apply ga | apply gb | apply gc | apply gd | apply ge | apply gf | apply gg | apply gh | apply gi | apply gj); conv => whnf) | (refine ⟨⟨rfl, rfl, nle rfl, nle rfl⟩, ?_⟩; conv => whnf) | fail)
              refine ⟨fun j hj hje => ?_, fun hno => absurd hnin (outX_no hno)⟩
              obtain ⟨_, hv⟩ := outX_at hj hje
              rw [hv, show hunX n n = 52 from if_pos rfl]
              conv => whnf
              repeat (first | ((with_reducible first | apply ga | apply gb | apply gc | apply gd | apply ge | apply gf | apply gg | apply gh | apply gi | apply gj); conv => whnf) | (refine ⟨⟨rfl, rfl, nle rfl, nle rfl⟩, ?_⟩; conv => whnf) | fail)
              refine f35k 152 rfl ?_
              conv => whnf
              repeat (first | ((with_reducible first | apply ga | apply gb | apply gc | apply gd | apply ge | apply gf | apply gg | apply gh | apply gi | apply gj); conv => whnf) | (refine ⟨⟨rfl, rfl, nle rfl, nle rfl⟩, ?_⟩; conv => whnf) | fail)
              refine sortedK sorted63 (id := 152) rfl rfl rfl rfl rfl (e.map (·.1)) Os (by rw [List.length_map]; exact List.length_map ..) (fun j hj => ?_) (fun o ho => by have := helt o ho; omega) (by rw [List.length_map]; omega) hop.1 hop.2 ?_
              · rw [getD_fst]
                exact (mp_f (0, 0) (by rw [List.length_map] at hj; exact hj)).1
              conv => whnf
              repeat (first | ((with_reducible first | apply ga | apply gb | apply gc | apply gd | apply ge | apply gf | apply gg | apply gh | apply gi | apply gj); conv => whnf) | (refine ⟨⟨rfl, rfl, nle rfl, nle rfl⟩, ?_⟩; conv => whnf) | fail)
              exact hK1 _ trivial (SubS.keepF [(18, 18), (52, 52), (150, 150)] (inX p n) rfl rfl rfl rfl rfl (.upd (.base rfl) rfl) ⟨⟨_, rfl, .obj _ _ _ _ rfl rfl⟩, ⟨_, rfl, .row _ _ _ _ _ _ _ _ _ rfl rfl rfl rfl⟩, ⟨_, rfl, .same⟩, ⟨_, rfl, .same⟩, ⟨_, rfl, .same⟩, ⟨_, rfl, .same⟩, ⟨_, rfl, .same⟩, trivial⟩
                ⟨.inr (.inr ⟨_, _, rfl, rfl, rfl, outX_le (lookX hA rfl rfl)⟩), .inr (.inr ⟨_, _, rfl, rfl, rfl, innO_le⟩), .inl ⟨_, _, rfl, rfl, rfl, .keepA⟩, trivial⟩)
            · refine awp_pieceM tab_ok mixed (mkSt 110 [(4, .obj 18 0), (11, .row 150 g 2 0 ((banksO p).take i).length), (13, i64 n), (15, .row 88 0 1 0 (topO e + 1)), (70, .pv (intsP Ls)), (71, i64 Ls.length), (72, i64 i)] ([(18, outX (hunX n) (nums p)), (52, innO e), (150, rowA 35 2 BankR.p b0 g ((banksO p).take i)), (88, rowA 39 1 wcell 0 0 (List.replicate (topO e + 1) 0))] ++ fam 36 fun m => innO (inn p m))) True (fun K1 hK1 => ?_) fun _ => ?_
              · have hix : ((Os.length : Int) - 1).toNat = Os.length - 1 := by omega
                conv => whnf
                repeat (first | ((with_reducible first | apply ga | apply gb | apply gc | apply gd | apply ge | apply gf | apply gg | apply gh | apply gi | apply gj); conv => whnf) | (refine ⟨⟨rfl, rfl, nle rfl, nle rfl⟩, ?_⟩; conv => whnf) | fail)
                refine ⟨⟨by unfold inI64; omega⟩, ?_⟩
                conv => whnf
                repeat (first | ((with_reducible first | apply ga | apply gb | apply gc | apply gd | apply ge | apply gf | apply gg | apply gh | apply gi | apply gj); conv => whnf) | (refine ⟨⟨rfl, rfl, nle rfl, nle rfl⟩, ?_⟩; conv => whnf) | fail)
                refine ⟨⟨by omega, by omega, rfl⟩, ?_⟩
                conv => whnf
                repeat (first | ((with_reducible first | apply ga | apply gb | apply gc | apply gd | apply ge | apply gf | apply gg | apply gh | apply gi | apply gj); conv => whnf) | (refine ⟨⟨rfl, rfl, nle rfl, nle rfl⟩, ?_⟩; conv => whnf) | fail)
                refine ⟨⟨by decide⟩, ?_⟩
                conv => whnf
                repeat (first | ((with_reducible first | apply ga | apply gb | apply gc | apply gd | apply ge | apply gf | apply gg | apply gh | apply gi | apply gj); conv => whnf) | (refine ⟨⟨rfl, rfl, nle rfl, nle rfl⟩, ?_⟩; conv => whnf) | fail)
                refine ⟨⟨by rw [hix, htop]; unfold inI64; omega⟩, ?_⟩
                conv => whnf
                repeat (first | ((with_reducible first | apply ga | apply gb | apply gc | apply gd | apply ge | apply gf | apply gg | apply gh | apply gi | apply gj); conv => whnf) | (refine ⟨⟨rfl, rfl, nle rfl, nle rfl⟩, ?_⟩; conv => whnf) | fail)
                refine ⟨⟨by rw [hix, htop]; first | omega | (show ((topO e : Nat) + 1 : Int) * 2 ≤ _; omega), by rw [hix, htop]; first | omega | (show ((topO e : Nat) + 1 : Int) * 2 ≤ _; omega), by rw [hix, htop]; first | omega | (show ((topO e : Nat) + 1 : Int) * 2 ≤ _; omega), by rw [hix, htop]; first | omega | (show ((topO e : Nat) + 1 : Int) * 2 ≤ _; omega)⟩, ?_⟩
                conv => whnf
                repeat (first | ((with_reducible first | apply ga | apply gb | apply gc | apply gd | apply ge | apply gf | apply gg | apply gh | apply gi | apply gj); conv => whnf) | (refine ⟨⟨rfl, rfl, nle rfl, nle rfl⟩, ?_⟩; conv => whnf) | fail)
                refine hK1 _ trivial (SubS.keepF [(18, 18), (52, 52), (150, 150), (88, 88)] (inX p n) rfl rfl rfl rfl rfl (.upd (.base rfl) rfl) ⟨⟨_, rfl, .obj _ _ _ _ rfl rfl⟩, ⟨_, rfl, .row _ _ _ _ _ _ _ _ _ rfl rfl rfl rfl⟩, ⟨_, rfl, .same⟩, ⟨_, rfl, .row _ _ _ _ _ _ _ _ _ rfl rfl rfl ?_⟩, ⟨_, rfl, .same⟩, ⟨_, rfl, .same⟩, ⟨_, rfl, .same⟩, trivial⟩
                  ⟨.inr (.inr ⟨_, _, rfl, rfl, rfl, outX_le (lookX hA rfl rfl)⟩), .inr (.inr ⟨_, _, rfl, rfl, rfl, innO_le⟩), .inl ⟨_, _, rfl, rfl, rfl, .keepA⟩, .inl ⟨_, _, rfl, rfl, rfl, ⟨rfl, rfl, rfl, ?_, fun a b ha hb => ?_⟩⟩, trivial⟩)
                · rw [hix, htop]; rfl
                · rw [hix, htop]
                  show (List.replicate (topO e + 1) 0).length ≤ _
                  rw [List.length_replicate]; exact Nat.le_refl _
                · have hb0 : b = 0 := Nat.lt_one_iff.mp hb
                  subst hb0
                  have e1 : (List.replicate (topO e + 1) 0).getD a 0 = 0 := by
                    rw [List.getD_eq_getElem?_getD, List.getElem?_replicate]
                    split <;> rfl
                  show VLe _ _ _ _ (.pv (wcell ((List.replicate (topO e + 1) 0).getD a 0) 0))
                  rw [e1]; exact .same
              · -- the words, in whatever order
                refine awp_cut (α := Unit) (fun _ => mkSt 110 [(4, .obj 18 0), (11, .row 150 g 2 0 ((banksO p).take i).length), (13, i64 n), (15, .row 88 0 1 0 (topO e + 1)), (70, .pv (intsP Ls)), (71, i64 Ls.length), (72, i64 i)] ([(18, outX (hunX n) (nums p)), (52, innO e), (150, rowA 35 2 BankR.p b0 g ((banksO p).take i)), (88, rowA 39 1 wcell 0 0 (wordsO e))] ++ fam 36 fun m => innO (inn p m))) (fun _ => True) (fun K1 hK1 => ?_) ?_
                · refine awp_piece tab_ok mixed ?_
                  conv => whnf
                  repeat (first | ((with_reducible first | apply ga | apply gb | apply gc | apply gd | apply ge | apply gf | apply gg | apply gh | apply gi | apply gj); conv => whnf) | (refine ⟨⟨rfl, rfl, nle rfl, nle rfl⟩, ?_⟩; conv => whnf) | fail)
                  refine ⟨fun j hj hje => ?_, fun hno => absurd hnin (outX_no hno)⟩
                  obtain ⟨_, hv⟩ := outX_at hj hje
                  rw [hv, show hunX n n = 52 from if_pos rfl]
                  conv => whnf
                  repeat (first | ((with_reducible first | apply ga | apply gb | apply gc | apply gd | apply ge | apply gf | apply gg | apply gh | apply gi | apply gj); conv => whnf) | (refine ⟨⟨rfl, rfl, nle rfl, nle rfl⟩, ?_⟩; conv => whnf) | fail)
                  refine awp_block (awp_loopI (fun x : (Nat → Bool) × List Nat × Option Nat => x.2.1.length = topO e + 1 ∧ (∀ j, j < e.length → x.1 j = true → x.2.1.getD (e.getD j (0, 0)).1 0 = (e.getD j (0, 0)).2) ∧ (∀ o, (∀ j, j < e.length → x.1 j = true → (e.getD j (0, 0)).1 ≠ o) → x.2.1.getD o 0 = 0))
                    (fun x => mkSt 110 [(4, .obj 18 0), (11, .row 150 g 2 0 ((banksO p).take i).length), (13, i64 n), (15, .row 88 0 1 0 (topO e + 1)), (70, .pv (intsP Ls)), (71, i64 Ls.length), (72, i64 i), (92, .obj 92 2)] ([(18, outX (hunX n) (nums p)), (52, innO e), (150, rowA 35 2 BankR.p b0 g ((banksO p).take i)), (88, rowA 39 1 wcell 0 0 x.2.1), (92, itO e.length x.1 x.2.2)] ++ fam 36 fun m => innO (inn p m)))
                    (fun x => (List.range e.length).countP fun j => !x.1 j) (fun _ => false, List.replicate (topO e + 1) 0, none) ⟨List.length_replicate .., (fun _ _ h => by cases h), fun o _ => ?_⟩
                    (SubS.keepF [(18, 18), (52, 52), (150, 150), (88, 88), (92, 92)] (inX p n) rfl rfl rfl rfl rfl (.upd (.base rfl) rfl) ⟨⟨_, rfl, .obj _ _ _ _ rfl rfl⟩, ⟨_, rfl, .row _ _ _ _ _ _ _ _ _ rfl rfl rfl rfl⟩, ⟨_, rfl, .same⟩, ⟨_, rfl, .row _ _ _ _ _ _ _ _ _ rfl rfl rfl rfl⟩, ⟨_, rfl, .same⟩, ⟨_, rfl, .same⟩, ⟨_, rfl, .same⟩, ⟨_, rfl, .obj _ _ _ _ rfl rfl⟩, trivial⟩
                      ⟨.inr (.inr ⟨_, _, rfl, rfl, rfl, outX_le (lookX hA rfl rfl)⟩), .inr (.inr ⟨_, _, rfl, rfl, rfl, innO_le⟩), .inl ⟨_, _, rfl, rfl, rfl, .keepA⟩, .inl ⟨_, _, rfl, rfl, rfl, .keepA⟩, .inr (.inr ⟨_, _, rfl, rfl, rfl, itLe (List.length_map ..) rfl rfl rfl (fun j => ?_) (.obj _ _ _ _ rfl rfl) .nils fun _ => .nils⟩), trivial⟩) ?_)
                  · dsimp only
                    rw [List.getD_eq_getElem?_getD, List.getElem?_replicate]
                    split <;> rfl
                  · show VLe _ _ _ (iterF (.obj 52 0) j 1) _
                    exact .same
                  rintro ⟨s, V, lst⟩ ⟨hV, hV1, hV2⟩
                  dsimp only at hV hV1 hV2 ⊢
                  refine awp_piece tab_ok mixed ?_
                  conv => whnf
                  repeat (first | ((with_reducible first | apply ga | apply gb | apply gc | apply gd | apply ge | apply gf | apply gg | apply gh | apply gi | apply gj); conv => whnf) | (refine ⟨⟨rfl, rfl, nle rfl, nle rfl⟩, ?_⟩; conv => whnf) | fail)
                  refine ⟨List.length_map .., fun j hj hsj => ?_, fun hall => ?_⟩
                  · have hjl : j < e.length := hj
                    have hs0 : s j = false := by
                      have h1 : (itO e.length s lst).f j 1 = .pv (.bool (s j)) := rfl
                      have h2 : AV.pv (.bool (s j)) = .pv (.bool false) := h1.symm.trans hsj
                      exact PV.bool.inj (AV.pv.inj h2)
                    obtain ⟨hk, hv⟩ := mp_f (g := 0) (f := fun q : Nat × Nat => (i64 q.1, u16 q.2)) (0, 0) hjl
                    obtain ⟨q, hq⟩ : ∃ q, e.getD j (0, 0) = q := ⟨_, rfl⟩
                    have hqe : q ∈ e := by rw [← hq, List.getD_eq_getElem?_getD, List.getElem?_eq_getElem hjl]; exact List.getElem_mem hjl
                    have hqt := le_top e q hqe
                    have hqw := hew q hqe
                    rw [hq] at hk hv
                    conv => whnf
                    repeat (first | ((with_reducible first | apply ga | apply gb | apply gc | apply gd | apply ge | apply gf | apply gg | apply gh | apply gi | apply gj); conv => whnf) | (refine ⟨⟨rfl, rfl, nle rfl, nle rfl⟩, ?_⟩; conv => whnf) | fail)
                    refine awp_piece tab_ok mixed ?_
                    conv => whnf
                    repeat (first | ((with_reducible first | apply ga | apply gb | apply gc | apply gd | apply ge | apply gf | apply gg | apply gh | apply gi | apply gj); conv => whnf) | (refine ⟨⟨rfl, rfl, nle rfl, nle rfl⟩, ?_⟩; conv => whnf) | fail)
                    refine awp_block ?_
                    refine awp_pieceM tab_ok mixed (mkSt 110 [(4, .obj 18 0), (11, .row 150 g 2 0 ((banksO p).take i).length), (13, i64 n), (15, .row 88 0 1 0 (topO e + 1)), (16, i64 q.1), (17, u16 q.2), (70, .pv (intsP Ls)), (71, i64 Ls.length), (72, i64 i), (92, .obj 92 2)] ([(18, outX (hunX n) (nums p)), (52, innO e), (150, rowA 35 2 BankR.p b0 g ((banksO p).take i)), (88, rowA 39 1 wcell 0 0 V), (92, itO e.length (fun k => Nat.beq k j || s k) (some j))] ++ fam 36 fun m => innO (inn p m))) True (fun K2 hK2 => ?_) fun _ => ?_
                    · conv => whnf
                      repeat (first | ((with_reducible first | apply ga | apply gb | apply gc | apply gd | apply ge | apply gf | apply gg | apply gh | apply gi | apply gj); conv => whnf) | (refine ⟨⟨rfl, rfl, nle rfl, nle rfl⟩, ?_⟩; conv => whnf) | fail)
                      refine ⟨⟨List.length_map .., Int.natCast_nonneg _, by show (j : Int) < ((List.map _ e).length : Nat); rw [List.length_map]; omega⟩, ?_⟩
                      conv => whnf
                      repeat (first | ((with_reducible first | apply ga | apply gb | apply gc | apply gd | apply ge | apply gf | apply gg | apply gh | apply gi | apply gj); conv => whnf) | (refine ⟨⟨rfl, rfl, nle rfl, nle rfl⟩, ?_⟩; conv => whnf) | fail)
                      refine hK2 _ trivial (SubS.keepF [(18, 18), (52, 52), (150, 150), (88, 88), (92, 92)] (inX p n) rfl rfl rfl rfl rfl (.upd (.base rfl) rfl) ⟨⟨_, rfl, .obj _ _ _ _ rfl rfl⟩, ⟨_, rfl, .row _ _ _ _ _ _ _ _ _ rfl rfl rfl rfl⟩, ⟨_, rfl, .same⟩, ⟨_, rfl, .row _ _ _ _ _ _ _ _ _ rfl rfl rfl rfl⟩, ⟨_, rfl, ?_⟩, ⟨_, rfl, ?_⟩, ⟨_, rfl, .same⟩, ⟨_, rfl, .same⟩, ⟨_, rfl, .same⟩, ⟨_, rfl, .obj _ _ _ _ rfl rfl⟩, trivial⟩
                        ⟨.inr (.inr ⟨_, _, rfl, rfl, rfl, outX_le (lookX hA rfl rfl)⟩), .inr (.inr ⟨_, _, rfl, rfl, rfl, innO_le⟩), .inl ⟨_, _, rfl, rfl, rfl, .keepA⟩, .inl ⟨_, _, rfl, rfl, rfl, .keepA⟩, .inr (.inr ⟨_, _, rfl, rfl, rfl, itO_see rfl⟩), trivial⟩)
                      · show VLe _ _ _ ((innO e).f (j : Int).toNat 0) _
                        rw [Int.toNat_natCast]
                        have : (innO e).f j 0 = i64 q.1 := hk
                        rw [this]; exact .same
                      · show VLe _ _ _ ((innO e).f (j : Int).toNat 1) _
                        rw [Int.toNat_natCast]
                        have : (innO e).f j 1 = u16 q.2 := hv
                        rw [this]; exact .same
                    · refine awp_last tab_ok mixed ?_
                      conv => whnf
                      repeat (first | ((with_reducible first | apply ga | apply gb | apply gc | apply gd | apply ge | apply gf | apply gg | apply gh | apply gi | apply gj); conv => whnf) | (refine ⟨⟨rfl, rfl, nle rfl, nle rfl⟩, ?_⟩; conv => whnf) | fail)
                      refine ⟨⟨by omega, by omega, rfl⟩, ?_⟩
                      conv => whnf
                      repeat (first | ((with_reducible first | apply ga | apply gb | apply gc | apply gd | apply ge | apply gf | apply gg | apply gh | apply gi | apply gj); conv => whnf) | (refine ⟨⟨rfl, rfl, nle rfl, nle rfl⟩, ?_⟩; conv => whnf) | fail)
                      rw [Int.toNat_natCast, Nat.zero_add]
                      refine ⟨⟨rfl, rfl, show q.1 < V.length by omega, nle rfl⟩, ?_⟩
                      conv => whnf
                      repeat (first | ((with_reducible first | apply ga | apply gb | apply gc | apply gd | apply ge | apply gf | apply gg | apply gh | apply gi | apply gj); conv => whnf) | (refine ⟨⟨rfl, rfl, nle rfl, nle rfl⟩, ?_⟩; conv => whnf) | fail)
                      refine ⟨(fun k => Nat.beq k j || s k, V.set q.1 q.2, some j), ⟨by dsimp only; rw [List.length_set, hV], fun m hm hsm => ?_, fun o ho => ?_⟩, SubS.keepF [(18, 18), (52, 52), (150, 150), (88, 88), (92, 92)] (inX p n) rfl rfl rfl rfl rfl (.upd (.base rfl) rfl) ⟨⟨_, rfl, .obj _ _ _ _ rfl rfl⟩, ⟨_, rfl, .row _ _ _ _ _ _ _ _ _ rfl rfl rfl rfl⟩, ⟨_, rfl, .same⟩, ⟨_, rfl, .row _ _ _ _ _ _ _ _ _ rfl rfl rfl rfl⟩, ⟨_, rfl, .same⟩, ⟨_, rfl, .same⟩, ⟨_, rfl, .same⟩, ⟨_, rfl, .obj _ _ _ _ rfl rfl⟩, trivial⟩
                        ⟨.inr (.inr ⟨_, _, rfl, rfl, rfl, outX_le (lookX hA rfl rfl)⟩), .inr (.inr ⟨_, _, rfl, rfl, rfl, innO_le⟩), .inl ⟨_, _, rfl, rfl, rfl, .keepA⟩, .inl ⟨_, _, rfl, rfl, rfl, OLe.setW (gv := fun _ => u16 q.2) rfl rfl rfl rfl rfl .same (by omega)⟩, .inr (.inr ⟨_, _, rfl, rfl, rfl, itO_keep rfl⟩), trivial⟩, cnt_lt hs0 (fun _ => rfl) e.length hjl⟩
                      · dsimp only at hsm ⊢
                        rw [getD_set (by omega)]
                        by_cases hmj : m = j
                        · subst hmj; rw [hq, if_pos rfl]
                        · rw [if_neg]
                          · refine hV1 m hm ?_
                            rw [beqN_ne hmj, Bool.false_or] at hsm; exact hsm
                          · intro he1
                            rw [← hq, List.getD_eq_getElem?_getD, List.getD_eq_getElem?_getD, List.getElem?_eq_getElem hm, List.getElem?_eq_getElem hjl] at he1
                            refine hmj ?_
                            have hpw := List.pairwise_iff_getElem.mp hend
                            rcases Nat.lt_trichotomy m j with h | h | h
                            · have := hpw m j (by rw [List.length_map]; exact hm) (by rw [List.length_map]; exact hjl) h
                              rw [List.getElem_map, List.getElem_map] at this
                              exact absurd he1 this
                            · exact h
                            · have := hpw j m (by rw [List.length_map]; exact hjl) (by rw [List.length_map]; exact hm) h
                              rw [List.getElem_map, List.getElem_map] at this
                              exact absurd he1.symm this
                      · dsimp only at ho ⊢
                        rw [getD_set (by omega), if_neg]
                        · refine hV2 o fun m hm hsm => ho m hm ?_
                          rw [hsm, Bool.or_true]
                        · intro e1
                          refine ho j hjl ?_ (by rw [hq, e1])
                          rw [Nat.beq_refl]; rfl
                  · have hall' : ∀ j, j < e.length → s j = true := fun j hj => by
                      have h2 : AV.pv (.bool (s j)) = .pv (.bool true) := hall j hj
                      exact PV.bool.inj (AV.pv.inj h2)
                    have hVw : V = wordsO e := words_of hV (fun q hq => by
                      obtain ⟨j, hj, rfl⟩ := List.getElem_of_mem hq
                      have := hV1 j hj (hall' j hj)
                      rw [List.getD_eq_getElem?_getD (l := e), List.getElem?_eq_getElem hj] at this
                      exact this) (fun o ho => hV2 o fun j hj _ => ho _ (by rw [List.getD_eq_getElem?_getD, List.getElem?_eq_getElem hj]; exact List.getElem_mem hj))
                    subst hVw
                    conv => whnf
                    repeat (first | ((with_reducible first | apply ga | apply gb | apply gc | apply gd | apply ge | apply gf | apply gg | apply gh | apply gi | apply gj); conv => whnf) | (refine ⟨⟨rfl, rfl, nle rfl, nle rfl⟩, ?_⟩; conv => whnf) | fail)
                    refine awp_piece tab_ok mixed ?_
                    conv => whnf
                    repeat (first | ((with_reducible first | apply ga | apply gb | apply gc | apply gd | apply ge | apply gf | apply gg | apply gh | apply gi | apply gj); conv => whnf) | (refine ⟨⟨rfl, rfl, nle rfl, nle rfl⟩, ?_⟩; conv => whnf) | fail)
                    exact hK1 _ () trivial (SubS.keepF [(18, 18), (52, 52), (150, 150), (88, 88)] (inX p n) rfl rfl rfl rfl rfl (.base rfl) ⟨⟨_, rfl, .obj _ _ _ _ rfl rfl⟩, ⟨_, rfl, .row _ _ _ _ _ _ _ _ _ rfl rfl rfl rfl⟩, ⟨_, rfl, .same⟩, ⟨_, rfl, .row _ _ _ _ _ _ _ _ _ rfl rfl rfl rfl⟩, ⟨_, rfl, .same⟩, ⟨_, rfl, .same⟩, ⟨_, rfl, .same⟩, trivial⟩
                        ⟨.inr (.inr ⟨_, _, rfl, rfl, rfl, outX_le (lookX hA rfl rfl)⟩), .inr (.inr ⟨_, _, rfl, rfl, rfl, innO_le⟩), .inl ⟨_, _, rfl, rfl, rfl, .keepA⟩, .inl ⟨_, _, rfl, rfl, rfl, .keepA⟩, trivial⟩)
                · rintro - -
                  refine awp_last tab_ok mixed ?_
                  conv => whnf
                  repeat (first | ((with_reducible first | apply ga | apply gb | apply gc | apply gd | apply ge | apply gf | apply gg | apply gh | apply gi | apply gj); conv => whnf) | (refine ⟨⟨rfl, rfl, nle rfl, nle rfl⟩, ?_⟩; conv => whnf) | fail)
                  have htl : ((banksO p).take i).length ≤ 36 := by rw [List.length_take, hbk, List.length_map]; omega
                  have hgn : (banksO p).getD i b0 = ⟨(n : Int), wordsO e⟩ := by
                    rw [hbk, List.getD_eq_getElem?_getD, List.getElem?_map, List.getElem?_eq_getElem hlt]
                    have : Ls[i] = n := by rw [← hn, List.getD_eq_getElem?_getD, List.getElem?_eq_getElem hlt]; rfl
                    rw [this]
                    show (⟨(n : Int), wordsO (inn p n)⟩ : BankR) = _
                    rw [he]
                  have htk : (banksO p).take (i + 1) = (banksO p).take i ++ [⟨(n : Int), wordsO e⟩] := by
                    rw [take_sn (d := b0) (by rw [hbk, List.length_map]; exact hlt), hgn]
                  rw [htk] at hK'
                  refine ⟨⟨⟨rfl, rfl, rfl, nle rfl⟩, rfl, rfl, rfl, rfl, rfl, rfl, by show (((banksO p).take i).length + 1) * 32 ≤ _; omega⟩, ?_⟩
                  conv => whnf
                  repeat (first | ((with_reducible first | apply ga | apply gb | apply gc | apply gd | apply ge | apply gf | apply gg | apply gh | apply gi | apply gj); conv => whnf) | (refine ⟨⟨rfl, rfl, nle rfl, nle rfl⟩, ?_⟩; conv => whnf) | fail)
                  refine hK' _ (g + 1) trivial (SubS.outF [88] n [(18, 18), (150, 150)] (inP p) rfl rfl rfl rfl rfl rfl (G := fun m => inn p m) (.upd (.upd (.base rfl) rfl) rfl) (fun m hm => rfl) (fun _ => ⟨_, rfl, by rw [he]; exact innO_le⟩) ⟨⟨_, rfl, .obj _ _ _ _ rfl rfl⟩, ⟨_, rfl, .row _ _ _ _ _ _ _ _ _ rfl rfl rfl (by simp)⟩, ⟨_, rfl, .same⟩, ⟨_, rfl, .same⟩, ⟨_, rfl, .same⟩, trivial⟩
                    ⟨.inr (.inr ⟨_, _, rfl, rfl, rfl, outX_le fun m hm => famR_look rfl (nums36 hA hm) (decide_eq_true hm)⟩), .inl ⟨_, _, rfl, rfl, rfl, OLe.snocA rfl rfl rfl rfl rfl fun j hj => ?_⟩, trivial⟩)
                  match j, hj with
                  | 0, _ => exact .same
                  | 1, _ => exact VLe.frzA rfl rfl (by unfold wordsO; rw [List.length_map, List.length_range])
        · rintro g' -
          refine awp_last tab_ok mixed ?_
          conv => whnf
          repeat (first | ((with_reducible first | apply ga | apply gb | apply gc | apply gd | apply ge | apply gf | apply gg | apply gh | apply gi | apply gj); conv => whnf) | (refine ⟨⟨rfl, rfl, nle rfl, nle rfl⟩, ?_⟩; conv => whnf) | fail)
          refine ⟨⟨by unfold inI64; omega⟩, ?_⟩
          conv => whnf
          repeat (first | ((with_reducible first | apply ga | apply gb | apply gc | apply gd | apply ge | apply gf | apply gg | apply gh | apply gi | apply gj); conv => whnf) | (refine ⟨⟨rfl, rfl, nle rfl, nle rfl⟩, ?_⟩; conv => whnf) | fail)
          exact ⟨(i + 1, g'), hlt, SubS.keepF [(18, 18), (150, 150)] (inP p) rfl rfl rfl rfl rfl (.base rfl) ⟨⟨_, rfl, .obj _ _ _ _ rfl rfl⟩, ⟨_, rfl, .row _ _ _ _ _ _ _ _ _ rfl rfl rfl rfl⟩, ⟨_, rfl, .same⟩, ⟨_, rfl, .same⟩, ⟨_, rfl, .same⟩, trivial⟩
            ⟨.inr (.inr ⟨_, _, rfl, rfl, rfl, outX_keep hA rfl⟩), .inl ⟨_, _, rfl, rfl, rfl, .keepA⟩, trivial⟩, by dsimp only; omega⟩
      · have hil : i = Ls.length := by omega
        have htk : (banksO p).take i = banksO p := List.take_of_length_le (by rw [hbk, List.length_map]; omega)
        rw [htk]
        conv => whnf
        repeat (first | ((with_reducible first | apply ga | apply gb | apply gc | apply gd | apply ge | apply gf | apply gg | apply gh | apply gi | apply gj); conv => whnf) | (refine ⟨⟨rfl, rfl, nle rfl, nle rfl⟩, ?_⟩; conv => whnf) | fail)
        exact hK _ g trivial (SubS.mkN [] [(150, 150)] rfl rfl rfl ⟨⟨_, rfl, .row _ _ _ _ _ _ _ _ _ rfl rfl rfl rfl⟩, trivial⟩ ⟨.inl ⟨_, _, rfl, rfl, rfl, .keepA⟩, trivial⟩)
    · rintro g -
      refine awp_last tab_ok mixed ?_
      conv => whnf
      repeat (first | ((with_reducible first | apply ga | apply gb | apply gc | apply gd | apply ge | apply gf | apply gg | apply gh | apply gi | apply gj); conv => whnf) | (refine ⟨⟨rfl, rfl, nle rfl, nle rfl⟩, ?_⟩; conv => whnf) | fail)
      exact done_tup [.pv (banksP (banksO p)), i64 0] [150] rfl ⟨VLe.frzA rfl rfl rfl, .same, trivial⟩
end Go.Proofs.Ytioccpodnkllfaa

namespace Go.Proofs.Ytioccpodnkllfaa
open Go Go.AM
attribute [local irreducible] AWP CallK PureCall SubS HeapCall HeapCallP HeapCallK
theorem v1 : sealR ⟨3, [5, 6]⟩ = (⟨3, [5, 6, 32759]⟩, 0) := by rfl
theorem v2 : packR [] = ([80, 82, 76, 49, 128, 0], 0) := by rfl
theorem v3 : unpackA [80, 82, 76, 49, 128] = .error (5, 9) := by
  have h : magE [80, 82, 76, 49, 128] 0 = none := by
    rw [magE_eq, magE_eq, magE_eq, magE_eq, magE_eq]; rfl
  unfold unpackA
  rw [h]; rfl
theorem v4 : objR [(1025, 7), (1027, 8)] = ([⟨1, [0, 7, 0, 8]⟩], 0) := by rfl
set_option maxHeartbeats 4000000 in
theorem f15 : PureCall Try.prog 15 [] (bb true) := by
  refine PureCall.body tab_ok (by kernel_rfl) Try.func15 rfl rfl rfl ?_
  refine awp_piece tab_ok mixed ?_
  conv => whnf
  repeat (first | ((with_reducible first | apply ga | apply gb | apply gc | apply gd | apply ge | apply gf | apply gg | apply gh | apply gi | apply gj); conv => whnf) | (refine ⟨⟨rfl, rfl, nle rfl, nle rfl⟩, ?_⟩; conv => whnf) | fail)
  refine awp_piece tab_ok mixed ?_
  conv => whnf
  repeat (first | ((with_reducible first | apply ga | apply gb | apply gc | apply gd | apply ge | apply gf | apply gg | apply gh | apply gi | apply gj); conv => whnf) | (refine ⟨⟨rfl, rfl, nle rfl, nle rfl⟩, ?_⟩; conv => whnf) | fail)
  refine CallK.drop [11] (f19 ⟨3, [5, 6]⟩ ⟨by unfold inI64; decide, by decide, by decide⟩) ⟨agg2 .same (VLe.frzO (E := 39) (g := 0) (L := [5, 6]) rfl rfl (CellsA.row (fun i j hi hj => ?_) rfl rfl rfl) rfl), trivial⟩ ?_
  · have hj0 : j = 0 := Nat.lt_one_iff.mp hj
    subst hj0
    match i, hi with
    | 0, _ => exact .same
    | 1, _ => exact .same
  rw [v1]
  conv => whnf
  repeat (first | ((with_reducible first | apply ga | apply gb | apply gc | apply gd | apply ge | apply gf | apply gg | apply gh | apply gi | apply gj); conv => whnf) | (refine ⟨⟨rfl, rfl, nle rfl, nle rfl⟩, ?_⟩; conv => whnf) | fail)
  repeat (refine ⟨⟨rfl, rfl, nle rfl, nle rfl⟩, ?_⟩; conv => whnf)
  repeat (first | ((with_reducible first | apply ga | apply gb | apply gc | apply gd | apply ge | apply gf | apply gg | apply gh | apply gi | apply gj); conv => whnf) | (refine ⟨⟨rfl, rfl, nle rfl, nle rfl⟩, ?_⟩; conv => whnf) | fail)
  refine awp_piece tab_ok mixed ?_
  conv => whnf
  repeat (first | ((with_reducible first | apply ga | apply gb | apply gc | apply gd | apply ge | apply gf | apply gg | apply gh | apply gi | apply gj); conv => whnf) | (refine ⟨⟨rfl, rfl, nle rfl, nle rfl⟩, ?_⟩; conv => whnf) | fail)
  refine CallK.drop [] (f25 [] ⟨by decide, fun _ h => by cases h⟩ (by decide)) ⟨.nilA, trivial⟩ ?_
  rw [v2]
  conv => whnf
  repeat (first | ((with_reducible first | apply ga | apply gb | apply gc | apply gd | apply ge | apply gf | apply gg | apply gh | apply gi | apply gj); conv => whnf) | (refine ⟨⟨rfl, rfl, nle rfl, nle rfl⟩, ?_⟩; conv => whnf) | fail)
  refine awp_piece tab_ok mixed ?_
  conv => whnf
  repeat (first | ((with_reducible first | apply ga | apply gb | apply gc | apply gd | apply ge | apply gf | apply gg | apply gh | apply gi | apply gj); conv => whnf) | (refine ⟨⟨rfl, rfl, nle rfl, nle rfl⟩, ?_⟩; conv => whnf) | fail)
  refine CallK.drop [21] (f27 [80, 82, 76, 49, 128] ⟨by decide, by decide⟩) ⟨VLe.frzO (E := 5) (g := 0) (L := [80, 82, 76, 49, 128]) rfl rfl (CellsA.row (fun i j hi hj => ?_) rfl rfl rfl) rfl, trivial⟩ ?_
  · have hj0 : j = 0 := Nat.lt_one_iff.mp hj
    subst hj0
    match i, hi with
    | 0, _ => exact .same
    | 1, _ => exact .same
    | 2, _ => exact .same
    | 3, _ => exact .same
    | 4, _ => exact .same
  rw [v3]
  conv => whnf
  repeat (first | ((with_reducible first | apply ga | apply gb | apply gc | apply gd | apply ge | apply gf | apply gg | apply gh | apply gi | apply gj); conv => whnf) | (refine ⟨⟨rfl, rfl, nle rfl, nle rfl⟩, ?_⟩; conv => whnf) | fail)
  refine awp_piece tab_ok mixed ?_
  conv => whnf
  repeat (first | ((with_reducible first | apply ga | apply gb | apply gc | apply gd | apply ge | apply gf | apply gg | apply gh | apply gi | apply gj); conv => whnf) | (refine ⟨⟨rfl, rfl, nle rfl, nle rfl⟩, ?_⟩; conv => whnf) | fail)
  refine CallK.drop [29] (f16 [(1025, 7), (1027, 8)] ⟨by decide, by unfold inI64; decide⟩ 0 1 0 (fun _ _ => .nilI)) ⟨agg2 (VLe.frzO (E := 65) (g := 0) (L := [((1025 : Int), 7), (1027, 8)]) rfl rfl (CellsA.row (fun i j hi hj => ?_) rfl rfl rfl) rfl) (.nil _ _ _), trivial⟩ ?_
  · match i, hi, j, hj with
    | 0, _, 0, _ => exact .same
    | 0, _, 1, _ => exact .same
    | 1, _, 0, _ => exact .same
    | 1, _, 1, _ => exact .same
  rw [v4]
  conv => whnf
  repeat (first | ((with_reducible first | apply ga | apply gb | apply gc | apply gd | apply ge | apply gf | apply gg | apply gh | apply gi | apply gj); conv => whnf) | (refine ⟨⟨rfl, rfl, nle rfl, nle rfl⟩, ?_⟩; conv => whnf) | fail)
  refine awp_last tab_ok mixed ?_
  conv => whnf
  repeat (first | ((with_reducible first | apply ga | apply gb | apply gc | apply gd | apply ge | apply gf | apply gg | apply gh | apply gi | apply gj); conv => whnf) | (refine ⟨⟨rfl, rfl, nle rfl, nle rfl⟩, ?_⟩; conv => whnf) | fail)
  repeat (first | ((with_reducible first | apply ga | apply gb | apply gc | apply gd | apply ge | apply gf | apply gg | apply gh | apply gi | apply gj); conv => whnf) | (refine ⟨⟨rfl, rfl, nle rfl, nle rfl⟩, ?_⟩; conv => whnf) | (refine ⟨fun _ => ?_, fun h => absurd h (by decide)⟩; conv => whnf) | (refine ⟨fun h => absurd h (by decide), fun _ => ?_⟩; conv => whnf) | fail)
  repeat (refine ⟨⟨rfl, rfl, nle rfl, nle rfl⟩, ?_⟩; conv => whnf)
  repeat (first | ((with_reducible first | apply ga | apply gb | apply gc | apply gd | apply ge | apply gf | apply gg | apply gh | apply gi | apply gj); conv => whnf) | (refine ⟨⟨rfl, rfl, nle rfl, nle rfl⟩, ?_⟩; conv => whnf) | fail)
  repeat (first | ((with_reducible first | apply ga | apply gb | apply gc | apply gd | apply ge | apply gf | apply gg | apply gh | apply gi | apply gj); conv => whnf) | (refine ⟨⟨rfl, rfl, nle rfl, nle rfl⟩, ?_⟩; conv => whnf) | (refine ⟨fun _ => ?_, fun h => absurd h (by decide)⟩; conv => whnf) | (refine ⟨fun h => absurd h (by decide), fun _ => ?_⟩; conv => whnf) | fail)
  refine CallK.flat [38, 41, 39] (f18 [⟨3, [5, 6, 32759]⟩] ⟨by decide, ?_⟩) ⟨VLe.frzO (E := 35) (g := 0) (L := [(⟨3, [5, 6, 32759]⟩ : BankR)]) rfl rfl (CellsA.row (CellsA.one fun j hj => ?_) rfl rfl rfl) rfl,
      VLe.frzO (E := 35) (g := 0) (L := [(⟨3, [5, 6, 32759]⟩ : BankR)]) rfl rfl (CellsA.row (CellsA.one fun j hj => ?_) rfl rfl rfl) rfl, trivial⟩ rfl ?_
  · intro b hb
    rw [List.mem_singleton] at hb
    subst hb
    exact ⟨by unfold inI64; decide, by decide, by decide⟩
  · match j, hj with
    | 0, _ => exact .same
    | 1, _ => exact .same
  · match j, hj with
    | 0, _ => exact .same
    | 1, _ =>
      refine VLe.frzO (E := 39) (g := 0) (L := [5, 6, 32759]) rfl rfl (CellsA.row (fun i j hi hj => ?_) rfl rfl rfl) rfl
      have hj0 : j = 0 := Nat.lt_one_iff.mp hj
      subst hj0
      match i, hi with
      | 0, _ => exact .same
      | 1, _ => exact .same
      | 2, _ => exact .same
  repeat (first | ((with_reducible first | apply ga | apply gb | apply gc | apply gd | apply ge | apply gf | apply gg | apply gh | apply gi | apply gj); conv => whnf) | (refine ⟨⟨rfl, rfl, nle rfl, nle rfl⟩, ?_⟩; conv => whnf) | (refine ⟨fun _ => ?_, fun h => absurd h (by decide)⟩; conv => whnf) | (refine ⟨fun h => absurd h (by decide), fun _ => ?_⟩; conv => whnf) | fail)
  refine ⟨⟨rfl, fun _ _ => rfl⟩, ?_⟩
  conv => whnf
  repeat (first | ((with_reducible first | apply ga | apply gb | apply gc | apply gd | apply ge | apply gf | apply gg | apply gh | apply gi | apply gj); conv => whnf) | (refine ⟨⟨rfl, rfl, nle rfl, nle rfl⟩, ?_⟩; conv => whnf) | fail)
  repeat (first | ((with_reducible first | apply ga | apply gb | apply gc | apply gd | apply ge | apply gf | apply gg | apply gh | apply gi | apply gj); conv => whnf) | (refine ⟨⟨rfl, rfl, nle rfl, nle rfl⟩, ?_⟩; conv => whnf) | (refine ⟨fun _ => ?_, fun h => absurd h (by decide)⟩; conv => whnf) | (refine ⟨fun h => absurd h (by decide), fun _ => ?_⟩; conv => whnf) | fail)
  refine CallK.flat [69, 67] (f18 [⟨1, [0, 7, 0, 8]⟩] ⟨by decide, ?_⟩) ⟨.same, VLe.frzO (E := 35) (g := 0) (L := [(⟨1, [0, 7, 0, 8]⟩ : BankR)]) rfl rfl (CellsA.row (CellsA.one fun j hj => ?_) rfl rfl rfl) rfl, trivial⟩ rfl ?_
  · intro b hb
    rw [List.mem_singleton] at hb
    subst hb
    exact ⟨by unfold inI64; decide, by decide, by decide⟩
  · match j, hj with
    | 0, _ => exact .same
    | 1, _ =>
      refine VLe.frzO (E := 39) (g := 0) (L := [0, 7, 0, 8]) rfl rfl (CellsA.row (fun i j hi hj => ?_) rfl rfl rfl) rfl
      have hj0 : j = 0 := Nat.lt_one_iff.mp hj
      subst hj0
      match i, hi with
      | 0, _ => exact .same
      | 1, _ => exact .same
      | 2, _ => exact .same
      | 3, _ => exact .same
  conv => whnf
  repeat (first | ((with_reducible first | apply ga | apply gb | apply gc | apply gd | apply ge | apply gf | apply gg | apply gh | apply gi | apply gj); conv => whnf) | (refine ⟨⟨rfl, rfl, nle rfl, nle rfl⟩, ?_⟩; conv => whnf) | fail)
  exact done_bool _ _ rfl rfl rfl
end Go.Proofs.Ytioccpodnkllfaa
