/- Part of the proof: what further functions that the law calls compute. -/
import Derived.Test.YtncmpjpmcliomaaV
namespace Go.Proofs.Ytncmpjpmcliomaa
open Go Go.AM
theorem wval_range {w : Int} (hw : 0 ≤ w ∧ w < 32768) : ∀ k, k ≤ 15 → wval ((List.range k).map (bit w)) = w / 2 ^ (15 - k) := by
  intro k
  induction k with
  | zero => intro _; show (0 : Int) = w / 2 ^ 15; omega
  | succ k ih =>
    intro hk
    rw [List.range_succ, List.map_append, List.map_singleton, wval_snoc, ih (by omega)]
    show 2 * (w / 2 ^ (15 - k)) + w / 2 ^ (14 - k) % 2 = w / 2 ^ (15 - (k + 1))
    have e1 : 15 - k = (14 - k) + 1 := by omega
    have e2 : 15 - (k + 1) = 14 - k := by omega
    rw [e2, e1, Int.pow_succ, ← Int.ediv_ediv_of_nonneg (Int.le_of_lt (Int.pow_pos (by decide)))]
    omega
theorem wval_data {w : Int} (hw : 0 ≤ w ∧ w < 32768) : wval (dataB w) = w := by
  have := wval_range hw 15 (Nat.le_refl _)
  rw [show (2 : Int) ^ (15 - 15) = 1 from rfl, Int.ediv_one] at this
  exact this
theorem bitL_len (w o : Int) : (bitL w o).length = 17 := by simp [bitL, dataB]
theorem bitL_bd {w o : Int} (ho : 0 ≤ o ∧ o < 2) : ∀ x ∈ bitL w o, 0 ≤ x ∧ x < 2 := by
  intro x hx
  simp only [bitL, dataB, List.mem_append, List.mem_cons, List.mem_map, List.not_mem_nil, or_false] at hx
  rcases hx with (rfl | ⟨j, _, rfl⟩) | rfl
  · exact ho
  · exact bit_bd w j
  · unfold lastB; omega
theorem sumI_append (a b : List Int) : sumI (a ++ b) = sumI a + sumI b := by
  have : ∀ (b : List Int) (s : Int), b.foldl (· + ·) s = s + b.foldl (· + ·) 0 := by
    intro b
    induction b with
    | nil => intro s; simp
    | cons x b ih => intro s; simp only [List.foldl_cons]; rw [ih (s + x), ih (0 + x)]; omega
  simp only [sumI, List.foldl_append]
  exact this b _
theorem sumI_cons (x : Int) (l : List Int) : sumI (x :: l) = x + sumI l := by
  have := sumI_append [x] l
  simpa [sumI] using this
theorem bitL_odd (w o : Int) : sumI (bitL w o) % 2 = 1 := by
  unfold bitL
  rw [sumI_append, sumI_cons, sumI_cons]
  show (o + sumI (dataB w) + (lastB w o + 0)) % 2 = 1
  unfold lastB
  omega
theorem goodB_iff {l : List Int} : goodB l = true ↔ l.length = 17 ∧ (∀ x ∈ l, x < 2) ∧ sumI l % 2 = 1 := by
  simp only [goodB, Bool.and_eq_true, beq_iff_eq, List.all_eq_true, decide_eq_true_eq, and_assoc]
theorem wordS_bitL {w o : Int} (hw : 0 ≤ w ∧ w < 32768) (ho : 0 ≤ o ∧ o < 2) : wordS (bitL w o) = (w, o == 1, true) := by
  have hg : goodB (bitL w o) = true := goodB_iff.mpr ⟨bitL_len w o, fun x hx => (bitL_bd ho x hx).2, bitL_odd w o⟩
  unfold wordS
  rw [hg]
  have hl : (o :: dataB w).length = 16 := by simp [dataB]
  have h1 : ((bitL w o).take 16).drop 1 = dataB w := by
    unfold bitL
    rw [← hl, List.take_left]
    rfl
  have h2 : (bitL w o).getD 0 0 = o := rfl
  rw [h1, h2, wval_data hw]
  rfl
theorem sendN_get (ws : List Int) : ∀ m n, n < m → ((sendN ws m).drop (17 * n)).take 17 = bitL (ws.getD n 0) (ordB n) := by
  intro m
  induction m with
  | zero => intro n h; omega
  | succ m ih =>
    intro n h
    show ((sendN ws m ++ bitL (ws.getD m 0) (if m = 0 then 1 else 0)).drop (17 * n)).take 17 = _
    have hl := sendN_len ws m
    by_cases hn : n < m
    · rw [List.drop_append_of_le_length (by omega), List.take_append_of_le_length (by rw [List.length_drop]; omega), ih n hn]
    · obtain rfl : n = m := by omega
      rw [List.drop_append, show 17 * n - (sendN ws n).length = 0 by omega, List.drop_of_length_le (by omega)]
      rw [List.nil_append, List.drop_zero, List.take_of_length_le (by rw [bitL_len]; omega)]
      rfl
theorem wordS_bad {l : List Int} (h : goodB l = false) : wordS l = (0, false, false) := by unfold wordS; rw [h]; rfl
theorem sumI_set {l : List Int} {k : Nat} {v : Int} (hk : k < l.length) : sumI (l.set k v) = sumI l - l.getD k 0 + v := by
  induction l generalizing k with
  | nil => simp at hk
  | cons x l ih =>
    cases k with
    | zero => simp only [List.set_cons_zero, sumI_cons]; show v + sumI l = x + sumI l - x + v; omega
    | succ k =>
      simp only [List.set_cons_succ, sumI_cons]
      rw [ih (by simpa using hk)]
      show _ = x + sumI l - l.getD k 0 + v
      omega
/-- A bit is inverted. -/
theorem flip_bad {l : List Int} {k : Nat} (hk : k < l.length) (_hl : ∀ x ∈ l, 0 ≤ x ∧ x < 2) (hs : sumI l % 2 = 1) : goodB (l.set k (1 - l.getD k 0)) = false := by
  rw [← Bool.not_eq_true, goodB_iff]
  rintro ⟨_, _, h⟩
  rw [sumI_set hk] at h
  omega
/-- A bit is lost. -/
theorem lost_bad {l : List Int} {k : Nat} {v : Int} (hk : k < l.length) (hv : 2 ≤ v) : goodB (l.set k v) = false := by
  rw [← Bool.not_eq_true, goodB_iff]
  rintro ⟨_, h, _⟩
  have := h v (by
    rw [List.mem_iff_getElem]
    exact ⟨k, by simpa using hk, by simp⟩)
  omega
end Go.Proofs.Ytncmpjpmcliomaa

namespace Go.Proofs.Ytncmpjpmcliomaa
open Go Go.AM
attribute [local irreducible] AWP CallK PureCall SubS HeapCall
/-- The law's own lists. -/
def ownV (x : Int × List Int) : AV := .agg 19 fun j => .pv (.int .u16 (bif Nat.beq j 0 then x.1 else x.2.getD (j - 1) 0))
def ofD (d : List Int) : List Int := d.map fun y => y % 32768
theorem ofD_get {d : List Int} {i : Nat} (h : i < d.length) : (ofD d).getD i 0 = d.getD i 0 % 32768 := by
  simp [ofD, List.getD_eq_getElem?_getD, h]
theorem f25 (id : Int) (d : List Int) (hid : W id) (hd : ∀ y ∈ d, W y) (hl : d.length = 18) : PureCall Try.prog 25 [ownV (id, d)] (listV (id % 32768) (ofD d)) := by
  refine PureCall.run tab_ok mixed (by kernel_rfl) Try.func25 rfl rfl rfl ?_
  conv => whnf
  repeat (refine ⟨⟨rfl, rfl, nle rfl, nle rfl⟩, ?_⟩; conv => whnf)
  refine ⟨⟨by decide⟩, ?_⟩
  conv => whnf
  repeat (refine ⟨⟨rfl, rfl, nle rfl, nle rfl⟩, ?_⟩; conv => whnf)
  have hid2 : id.tmod 32768 = id % 32768 := Int.tmod_eq_emod_of_nonneg hid.1
  have hdl : (ofD d).length = 18 := by simp [ofD, hl]
  refine ex_loop tab_ok mixed (fun x : Nat × Nat => x.1 ≤ 18) (fun x : Nat × Nat => mkSt 24 [(1, .ptr 1 0 19 0 0), (2, .ptr 2 0 2 0 0), (3, .ptr 3 0 2 0 0), (4, i64 x.1)]
      [(1, ⟨54, 0, 19, 1, fun _ j => .pv (.int .u16 (bif Nat.beq j 0 then id else d.getD (j - 1) 0))⟩), (2, ⟨26, 0, 2, 1, fun _ j => bif Nat.beq j 0 then i16 0 else .nilS⟩), (3, ⟨26, 0, 2, 1, fun _ j => bif Nat.beq j 0 then i16 (id % 32768) else .row 1000 x.2 1 0 x.1⟩), (1000, rowL 23 .u16 x.2 ((ofD d).take x.1))]) (fun x => 18 - x.1) (0, 0) (Nat.zero_le _) (SubS.mkN [] [(1, 1), (2, 2), (3, 3)] rfl rfl rfl ?_ ?_) fun x hx => ?_
  · exact ⟨⟨_, rfl, .ptr _ _ _ _ _ _ _ _ _ rfl rfl rfl rfl⟩, ⟨_, rfl, .ptr _ _ _ _ _ _ _ _ _ rfl rfl rfl rfl⟩, ⟨_, rfl, .ptr _ _ _ _ _ _ _ _ _ rfl rfl rfl rfl⟩, ⟨_, rfl, .same⟩, trivial⟩
  · refine ⟨.inl ⟨_, _, rfl, rfl, rfl, rfl, rfl, rfl, Nat.le_refl _, fun i j hi hj => .same⟩, .inl ⟨_, _, rfl, rfl, rfl, rfl, rfl, rfl, Nat.le_refl _, fun i j hi hj => ?_⟩, .inl ⟨_, _, rfl, rfl, rfl, rfl, rfl, rfl, Nat.le_refl _, fun i j hi hj => ?_⟩, .inr ⟨rfl, rfl⟩, trivial⟩
    · match i, j with
      | 0, 0 => exact .same
      | 0, 1 => exact .nils
    · match i, j with
      | 0, 0 => exact .int hid2
      | 0, 1 => exact .void _ _ _
  obtain ⟨i, g⟩ := x
  have hi : i ≤ 18 := hx
  conv => whnf
  refine ⟨fun hc => ?_, fun hc => ?_⟩
  · have hc : (i : Int) < 18 := of_decide_eq_true hc
    have hlt : i < d.length := by omega
    conv => whnf
    repeat (refine ⟨⟨rfl, rfl, nle rfl, nle rfl⟩, ?_⟩; conv => whnf)
    refine ⟨⟨by omega, by show (i : Int) < 18; omega, by decide⟩, ?_⟩
    conv => whnf
    refine ⟨⟨rfl, rfl, nle rfl, show 0 + 1 + (i : Int).toNat * 1 + 1 ≤ 19 by omega⟩, ?_⟩
    conv => whnf
    refine ⟨⟨by decide⟩, ?_⟩
    conv => whnf
    have htl : ((ofD d).take i).length = i := by rw [List.length_take]; omega
    refine ⟨⟨⟨rfl, rfl, rfl, nle rfl⟩, rfl, rfl, rfl, rfl, rfl, htl.symm, show (i + 1) * 2 ≤ 140737488355328 by omega⟩, ?_⟩
    conv => whnf
    repeat (refine ⟨⟨rfl, rfl, nle rfl, nle rfl⟩, ?_⟩; conv => whnf)
    refine ⟨rfl, ?_⟩
    conv => whnf
    refine ⟨⟨by unfold inI64; omega⟩, ?_⟩
    conv => whnf
    refine ⟨(i + 1, g + 1), by show i + 1 ≤ 18; omega, SubS.mkN [] [(1, 1), (2, 2), (3, 3), (1000, 1000)] rfl rfl rfl ?_ ?_, by show 18 - (i + 1) < 18 - i; omega⟩
    · exact ⟨⟨_, rfl, .ptr _ _ _ _ _ _ _ _ _ rfl rfl rfl rfl⟩, ⟨_, rfl, .ptr _ _ _ _ _ _ _ _ _ rfl rfl rfl rfl⟩, ⟨_, rfl, .ptr _ _ _ _ _ _ _ _ _ rfl rfl rfl rfl⟩, ⟨_, rfl, .same⟩, trivial⟩
    · refine ⟨.inl ⟨_, _, rfl, rfl, rfl, rfl, rfl, rfl, Nat.le_refl _, fun i j hi hj => .same⟩, .inl ⟨_, _, rfl, rfl, rfl, rfl, rfl, rfl, Nat.le_refl _, fun i j hi hj => ?_⟩, .inl ⟨_, _, rfl, rfl, rfl, rfl, rfl, rfl, Nat.le_refl _, fun i j hi hj => ?_⟩, .inl ⟨_, _, rfl, rfl, rfl, OLe.rowL rfl rfl rfl (by rw [List.length_take]; show _ ≤ i + 1; omega) ?_⟩, trivial⟩
      · match i, j with
        | 0, 0 => exact .same
        | 0, 1 => exact .nils
      · match i, j with
        | 0, 0 => exact .same
        | 0, 1 => exact .row _ _ _ _ _ _ _ _ _ rfl rfl rfl rfl
      · try dsimp only
        refine IsL.cat' ((ofD d).take i) [(ofD d).getD i 0] (take_succ_getD (by omega)) rfl htl.symm IsL.seq (IsL.one ?_)
        rw [ofD_get hlt]
        refine congrArg (fun y => AV.pv (.int .u16 y)) ?_
        show Int.tmod (bif Nat.beq (0 + 1 + (i : Int).toNat * 1 + 0) 0 then id else d.getD (0 + 1 + (i : Int).toNat * 1 + 0 - 1) 0) 32768 = _
        have e1 : Nat.beq (0 + 1 + (i : Int).toNat * 1 + 0) 0 = false := by rw [show 0 + 1 + (i : Int).toNat * 1 + 0 = i + 1 by omega]; rfl
        rw [e1, show 0 + 1 + (i : Int).toNat * 1 + 0 - 1 = i by omega]
        exact Int.tmod_eq_emod_of_nonneg (hd _ (by rw [List.getD_eq_getElem?_getD, List.getElem?_eq_getElem hlt]; exact List.getElem_mem hlt)).1
  · have hc : ¬ (i : Int) < 18 := of_decide_eq_false hc
    have : i = 18 := by omega
    conv => whnf
    repeat (refine ⟨⟨rfl, rfl, nle rfl, nle rfl⟩, ?_⟩; conv => whnf)
    refine ⟨[1000], .agg _ _ _ fun k hk => ?_⟩
    match k with
    | 0 => exact .same
    | 1 =>
      refine .frz0 _ rfl rfl rfl rfl rfl (by simp [rowL, hdl, this]) (by show i = _; rw [hdl, this]) ?_
      show IsL (fun k _ => .pv (.int .u16 (((ofD d).take i).getD k 0))) _ (ofD d)
      rw [List.take_of_length_le (by omega)]
      exact IsL.seq
end Go.Proofs.Ytncmpjpmcliomaa

namespace Go.Proofs.Ytncmpjpmcliomaa
open Go Go.AM
attribute [local irreducible] AWP CallK PureCall SubS HeapCall
theorem _root_.Go.AM.IsL.put {f : Nat → Nat → AV} {g : Nat → AV} {k : IntKind} {L : List Int} {i : Nat} {v : Int} (h : IsL f k L) (hi : i < L.length) (hg : g 0 = .pv (.int k v)) : IsL (setCells f i 0 1 g) k (L.set i v) := fun j hj => by
  have hj : j < L.length := by simpa using hj
  unfold setCells
  by_cases hji : j = i
  · subst hji
    rw [show Nat.beq j j = true from Nat.beq_refl j]
    show g 0 = _
    rw [hg, List.getD_eq_getElem?_getD, List.getElem?_set_self hi]; rfl
  · have hb : Nat.beq j i = false := by
      cases hc : Nat.beq j i with
      | true => exact absurd (Nat.eq_of_beq_eq_true hc) hji
      | false => rfl
    rw [hb]
    show f j 0 = _
    rw [h j hj, List.getD_eq_getElem?_getD, List.getD_eq_getElem?_getD, List.getElem?_set_ne (Ne.symm hji)]
def spotV (w b : Int) (l : Bool) : AV := .agg 3 fun j => .pv (bif Nat.beq j 2 then .bool l else .int .u8 (bif Nat.beq j 0 then w else b))
theorem ofD_bd {d : List Int} (hd : ∀ y ∈ d, W y) : ∀ y ∈ ofD d, 0 ≤ y ∧ y < 32768 := fun y hy => by
  obtain ⟨z, hz, rfl⟩ := List.mem_map.mp hy
  have := hd z hz
  unfold W at this
  omega
def allW (id : Int) (d : List Int) : List Int := id :: d ++ [ck (id :: d)]
theorem words_all {id : Int} {d : List Int} (hid : 0 ≤ id ∧ id < 32768) (hd : ∀ y ∈ d, 0 ≤ y ∧ y < 32768) (hl : d.length = 18) : wordsS id d = (allW id d, 0) := by
  unfold wordsS
  rw [if_neg (by omega), if_neg (by omega), if_neg]
  · rfl
  rintro ⟨x, hx, h⟩
  rcases List.mem_cons.mp hx with rfl | hx
  · omega
  · have := hd x hx; omega
theorem send_all {id : Int} {d : List Int} (hid : 0 ≤ id ∧ id < 32768) (hd : ∀ y ∈ d, 0 ≤ y ∧ y < 32768) (hl : d.length = 18) : sendS id d = (sendN (allW id d) 20, 0) := by
  unfold sendS
  rw [words_all hid hd hl]
  have : (allW id d).length = 20 := by simp [allW, hl]
  show (sendN (allW id d) (allW id d).length, (0 : Int)) = _
  rw [this]
theorem ck_lt (id : Int) (d : List Int) : 0 ≤ ck (id :: d) ∧ ck (id :: d) < 32768 := by
  refine ⟨(ck_W _).1, ?_⟩
  have : ∀ (l : List Int) (s : Int), s < 32768 → l.foldl addC s < 32768 := by
    intro l
    induction l with
    | nil => intro s h; exact h
    | cons y l ih => intro s _; exact ih _ addC_W.2
  exact this _ 0 (by decide)
theorem all_bd {id : Int} {d : List Int} (hid : 0 ≤ id ∧ id < 32768) (hd : ∀ y ∈ d, 0 ≤ y ∧ y < 32768) : ∀ y ∈ allW id d, 0 ≤ y ∧ y < 32768 := fun y hy => by
  rcases List.mem_append.mp hy with hy | hy
  · rcases List.mem_cons.mp hy with rfl | hy
    · exact hid
    · exact hd y hy
  · rw [List.mem_singleton.mp hy]; exact ck_lt id d
theorem f8 (id : Int) (d : List Int) (pw pb : Int) (pl : Bool) (hid : W id) (hd : ∀ y ∈ d, W y) (hl : d.length = 18) (hpw : 0 ≤ pw ∧ pw < 256) (hpb : 0 ≤ pb ∧ pb < 256) :
    PureCall Try.prog 8 [ownV (id, d), spotV pw pb pl] (bb true) := by
  have hidr : 0 ≤ id % 32768 ∧ id % 32768 < 32768 := by omega
  have hdr := ofD_bd hd
  have hdl : (ofD d).length = 18 := by simp [ofD, hl]
  have hc12 := f12 (id % 32768) (ofD d) ⟨hidr.1, by omega⟩ (fun y hy => ⟨(hdr y hy).1, by have := (hdr y hy).2; omega⟩) (by omega)
  have hc14 := f14 (id % 32768) (ofD d) ⟨hidr.1, by omega⟩ (fun y hy => ⟨(hdr y hy).1, by have := (hdr y hy).2; omega⟩) (by omega)
  rw [words_all hidr hdr hdl] at hc12
  rw [send_all hidr hdr hdl] at hc14
  have hws := all_bd hidr hdr
  have hwl : (allW (id % 32768) (ofD d)).length = 20 := by simp [allW, hdl]
  have hBl := sendN_len (allW (id % 32768) (ofD d)) 20
  have hget := sendN_get (allW (id % 32768) (ofD d)) 20
  generalize allW (id % 32768) (ofD d) = ws at *
  generalize sendN ws 20 = B at *
  refine PureCall.run tab_ok mixed (by kernel_rfl) Try.func8 rfl rfl rfl ?_
  conv => whnf
  repeat (refine ⟨⟨rfl, rfl, nle rfl, nle rfl⟩, ?_⟩; conv => whnf)
  refine CallK.drop [] (f25 id d hid hd hl) ⟨.agg _ _ _ fun j hj => ?_, trivial⟩ ?_
  · rw [Nat.zero_add]; exact .same
  conv => whnf
  repeat (refine ⟨⟨rfl, rfl, nle rfl, nle rfl⟩, ?_⟩; conv => whnf)
  refine CallK.drop [] hc12 ⟨.agg _ _ _ fun i hi => ?_, trivial⟩ ?_
  · match i with
    | 0 => exact .same
    | 1 => exact .same
  conv => whnf
  repeat (refine ⟨⟨rfl, rfl, nle rfl, nle rfl⟩, ?_⟩; conv => whnf)
  refine CallK.drop [] hc14 ⟨.agg _ _ _ fun i hi => ?_, trivial⟩ ?_
  · match i with
    | 0 => exact .same
    | 1 => exact .same
  conv => whnf
  repeat (refine ⟨fun _ => ?_, fun h => Bool.noConfusion h⟩; conv => whnf)
  have hw20 : ((ws.length : Int) != 20) = false := by rw [hwl]; rfl
  have hB340 : ((B.length : Int) != 340) = false := by rw [hBl]; rfl
  refine ⟨fun _ => ?_, fun h => absurd ((hw20.symm.trans h)) (by decide)⟩
  conv => whnf
  repeat (refine ⟨fun _ => ?_, fun h => Bool.noConfusion h⟩; conv => whnf)
  refine ⟨fun h => absurd ((hB340.symm.trans h)) (by decide), fun _ => ?_⟩
  conv => whnf
  repeat (refine ⟨⟨rfl, rfl, nle rfl, nle rfl⟩, ?_⟩; conv => whnf)
  refine ⟨⟨by decide⟩, ?_⟩
  conv => whnf
  obtain ⟨n, hn, hn20⟩ : ∃ n : Nat, Int.tmod (IntKind.i64.wrap (bif Nat.beq (0 + 0 + 0) 0 then pw else pb)) 20 = n ∧ n < 20 := by
    show ∃ n : Nat, Int.tmod (IntKind.i64.wrap pw) 20 = n ∧ n < 20
    rw [wi64 (by omega) (by omega), Int.tmod_eq_emod_of_nonneg hpw.1]
    exact ⟨(pw % 20).toNat, by omega, by omega⟩
  rw [hn]
  refine ⟨⟨by unfold inI64; omega⟩, ?_⟩
  conv => whnf
  refine ⟨⟨show inI64 (17 * (n : Int)) by unfold inI64; omega⟩, ?_⟩
  conv => whnf
  refine ⟨⟨show inI64 (17 * (n : Int) + 17) by unfold inI64; omega⟩, ?_⟩
  conv => whnf
  refine ⟨⟨show (0 : Int) ≤ 17 * n by omega, show 17 * (n : Int) ≤ 17 * n + 17 by omega, show 17 * (n : Int) + 17 ≤ (B.length : Int) by omega, rfl⟩, ?_⟩
  conv => whnf
  have h17 : (17 * (n : Int) + 17 - 17 * n).toNat = 17 := by omega
  have hlo : (17 * (n : Int)).toNat = 17 * n := by omega
  refine ⟨⟨rfl, rfl, rfl, rfl, rfl, rfl, rfl, show (0 + (17 * (n : Int) + 17 - 17 * n).toNat) * 1 ≤ 140737488355328 by omega⟩, ?_⟩
  conv => whnf
  have hor : 0 ≤ ordB n ∧ ordB n < 2 := by unfold ordB; split <;> omega
  have hwn := hws (ws.getD n 0) (by rw [List.getD_eq_getElem?_getD, List.getElem?_eq_getElem (by omega)]; exact List.getElem_mem (by omega))
  obtain ⟨b, hb⟩ : ∃ b, b = bitL (ws.getD n 0) (ordB n) := ⟨_, rfl⟩
  have hbl : b.length = 17 := by rw [hb, bitL_len]
  have hbd : ∀ y ∈ b, 0 ≤ y ∧ y < 2 := by rw [hb]; exact bitL_bd hor
  have hbo : sumI b % 2 = 1 := by rw [hb]; exact bitL_odd _ _
  have hbs : ((B.drop (17 * n)).take 17) = b := by rw [hb]; exact hget n hn20
  have hbw : wordS b = (ws.getD n 0, ordB n == 1, true) := by rw [hb]; exact wordS_bitL hwn hor
  have hrow : ∀ {F f0 : Nat → Nat → AV}, F = catF f0 (fun i _ => .pv (.int .u8 (B.getD ((17 * (n : Int)).toNat + i) 0))) 0 → IsL F .u8 b := fun {F f0} hF => by
    subst hF
    refine IsL.catSub (L := B) (o := 17 * n) (n := 17) (g := fun i _ => .pv (.int .u8 (B.getD i 0))) rfl hlo IsL.seq hbs.symm (by omega)
  refine CallK.flat [53] (f18 b (by omega) (fun y hy => ⟨(hbd y hy).1, by have := (hbd y hy).2; omega⟩)) ⟨.frz0 _ rfl rfl rfl rfl rfl (show 0 + _ ≤ 0 + _ from Nat.le_refl _) (by omega) ?_, trivial⟩ rfl ?_
  · try dsimp only
    exact hrow rfl
  rw [hbw]
  conv => whnf
  refine ex_loop tab_ok mixed (fun i => i ≤ 17) (fun i : Nat => mkSt 139 [(3, .ptr 3 0 3 0 0), (6, .pv (sw ws)), (10, i64 n), (11, .row 53 1 1 0 17), (12, i16 (ws.getD n 0)), (13, bb (ordB n == 1)), (14, bb true), (15, i64 (sumI (b.take i))), (16, i64 i)]
      [(3, ⟨56, 0, 3, 1, fun _ j => .pv (bif Nat.beq j 2 then .bool pl else .int .u8 (bif Nat.beq j 0 then pw else pb))⟩), (53, rowL 5 .u8 1 b)]) (fun i => 17 - i) 0 (Nat.zero_le _) (SubS.mk [] rfl ?_ ?_) fun i hi => ?_
  · exact ⟨⟨_, rfl, .ptr _ _ _ _ _ _ _ _ _ rfl rfl rfl rfl⟩, ⟨_, rfl, .same⟩, ⟨_, rfl, .same⟩, ⟨_, rfl, .row _ _ _ _ _ _ _ _ _ rfl rfl rfl (show 0 + _ = 17 by omega)⟩, ⟨_, rfl, .same⟩, ⟨_, rfl, .same⟩, ⟨_, rfl, .same⟩, ⟨_, rfl, .same⟩, ⟨_, rfl, .same⟩, trivial⟩
  · refine ⟨.inl ⟨_, _, rfl, rfl, rfl, rfl, rfl, rfl, Nat.le_refl _, fun i j hi hj => .same⟩, .inl ⟨_, _, rfl, rfl, rfl, OLe.rowL rfl rfl rfl (show b.length ≤ 0 + _ by omega) ?_⟩, trivial⟩
    try dsimp only
    exact hrow rfl
  conv => whnf
  refine ⟨fun hc => ?_, fun hc => ?_⟩
  · have hc : (i : Int) < 17 := of_decide_eq_true hc
    have hlt : i < b.length := by omega
    conv => whnf
    refine ⟨⟨by omega, by show (i : Int) < 17; omega, rfl⟩, ?_⟩
    conv => whnf
    refine ⟨⟨rfl, rfl, show 0 + (i : Int).toNat < b.length by omega, nle rfl⟩, ?_⟩
    conv => whnf
    have hbi := hbd (b.getD i 0) (by rw [List.getD_eq_getElem?_getD, List.getElem?_eq_getElem hlt]; exact List.getElem_mem hlt)
    have hsb := sumI_bd (b.take i) fun y hy => hbd y (List.mem_of_mem_take hy)
    have hsl : (b.take i).length = i := by rw [List.length_take]; omega
    have hidx : 0 + (i : Int).toNat = i := by omega
    have hval : IntKind.i64.wrap (b.getD (0 + (i : Int).toNat) 0) = b.getD i 0 := by rw [hidx, wi64 (by omega) (by omega)]
    rw [hval]
    refine ⟨⟨show inI64 (sumI (b.take i) + b.getD i 0) by unfold inI64; omega⟩, ?_⟩
    conv => whnf
    refine ⟨⟨by unfold inI64; omega⟩, ?_⟩
    conv => whnf
    refine ⟨i + 1, by show i + 1 ≤ 17; omega, SubS.mk [] rfl ?_ ?_, by omega⟩
    · exact ⟨⟨_, rfl, .ptr _ _ _ _ _ _ _ _ _ rfl rfl rfl rfl⟩, ⟨_, rfl, .same⟩, ⟨_, rfl, .same⟩, ⟨_, rfl, .row _ _ _ _ _ _ _ _ _ rfl rfl rfl rfl⟩, ⟨_, rfl, .same⟩, ⟨_, rfl, .same⟩, ⟨_, rfl, .same⟩, ⟨_, rfl, .int (by rw [take_succ_getD hlt, sumI_snoc])⟩, ⟨_, rfl, .same⟩, trivial⟩
    · exact ⟨.inl ⟨_, _, rfl, rfl, rfl, rfl, rfl, rfl, Nat.le_refl _, fun i j hi hj => .same⟩, .inl ⟨_, _, rfl, rfl, rfl, OLe.rowL rfl rfl rfl (Nat.le_refl _) IsL.seq⟩, trivial⟩
  have hc : ¬ (i : Int) < 17 := of_decide_eq_false hc
  have hi17 : i = 17 := by have : i ≤ 17 := hi; omega
  have hsum : sumI (b.take i) = sumI b := by rw [List.take_of_length_le (by omega)]
  rw [hsum]
  conv => whnf
  repeat (refine ⟨fun _ => ?_, fun h => Bool.noConfusion h⟩; conv => whnf)
  refine ⟨⟨by omega, by omega, rfl⟩, ?_⟩
  conv => whnf
  repeat (first
    | (refine ⟨fun _ => ?_, fun h => Bool.noConfusion h⟩; conv => whnf)
    | (refine ⟨⟨nle rfl⟩, ?_⟩; conv => whnf))
  have hq1 : (ws.getD n 0 != ws.getD (n : Int).toNat 0) = false := by simp
  refine ⟨fun _ => ?_, fun h => absurd ((hq1.symm.trans h)) (by decide)⟩
  conv => whnf
  repeat (refine ⟨fun _ => ?_, fun h => Bool.noConfusion h⟩; conv => whnf)
  have hq2 : (!((ordB n == 1) == ((n : Int) == 0))) = false := by
    cases n with
    | zero => rfl
    | succ n => rfl
  refine ⟨fun _ => ?_, fun h => absurd ((hq2.symm.trans h)) (by decide)⟩
  conv => whnf
  repeat (first
    | (refine ⟨fun _ => ?_, fun h => Bool.noConfusion h⟩; conv => whnf)
    | (refine ⟨⟨by decide⟩, ?_⟩; conv => whnf))
  have hq3 : (Int.tmod (sumI b) 2 != 1) = false := by
    have := sumI_bd b hbd
    rw [Int.tmod_eq_emod_of_nonneg this.1, hbo]; rfl
  refine ⟨fun h => absurd ((hq3.symm.trans h)) (by decide), fun _ => ?_⟩
  conv => whnf
  repeat (refine ⟨⟨rfl, rfl, nle rfl, nle rfl⟩, ?_⟩; conv => whnf)
  refine ⟨⟨by decide⟩, ?_⟩
  conv => whnf
  obtain ⟨k, hk, hk17⟩ : ∃ k : Nat, Int.tmod (IntKind.i64.wrap (bif Nat.beq (0 + 1 + 0) 0 then pw else pb)) 17 = k ∧ k < 17 := by
    show ∃ n : Nat, Int.tmod (IntKind.i64.wrap pb) 17 = n ∧ n < 17
    rw [wi64 (by omega) (by omega), Int.tmod_eq_emod_of_nonneg hpb.1]
    exact ⟨(pb % 17).toNat, by omega, by omega⟩
  rw [hk]
  refine ⟨⟨by omega, by omega, rfl⟩, ?_⟩
  conv => whnf
  have hkb : k < b.length := by omega
  have hidx : 0 + (k : Int).toNat = k := by omega
  refine ⟨⟨rfl, rfl, show 0 + (k : Int).toNat < b.length by omega, nle rfl⟩, ?_⟩
  conv => whnf
  refine ⟨⟨by omega, by omega, rfl⟩, ?_⟩
  conv => whnf
  refine ⟨⟨rfl, rfl, show 0 + (k : Int).toNat < b.length by omega, nle rfl⟩, ?_⟩
  conv => whnf
  repeat (refine ⟨⟨rfl, rfl, nle rfl, nle rfl⟩, ?_⟩; conv => whnf)
  have hbk := hbd (b.getD k 0) (by rw [List.getD_eq_getElem?_getD, List.getElem?_eq_getElem hkb]; exact List.getElem_mem hkb)
  have hv1 : IntKind.u8.wrap (1 - b.getD (0 + (k : Int).toNat) 0) = 1 - b.getD k 0 := by rw [hidx, w8]; omega
  have hset : ∀ {F : Nat → Nat → AV} {g : Nat → AV} {L : List Int} {v : Int}, L.length = 17 → IsL F .u8 L → g 0 = .pv (.int .u8 v) → IsL (setCells F (0 + (k : Int).toNat) 0 1 g) .u8 (L.set k v) := fun {F g L v} hL hF hg => by
    rw [hidx]
    exact IsL.put hF (by omega) hg
  have hwd : ∀ v : Int, 0 ≤ v ∧ v < 256 → ∀ y ∈ b.set k v, 0 ≤ y ∧ y < 256 := fun v hv y hy => by
    rcases List.mem_or_eq_of_mem_set hy with h | rfl
    · have := hbd y h; omega
    · exact hv
  refine ⟨fun hlo => ?_, fun hlo => ?_⟩
  · conv => whnf
    repeat (refine ⟨⟨rfl, rfl, nle rfl, nle rfl⟩, ?_⟩; conv => whnf)
    refine ⟨⟨by omega, by omega, rfl⟩, ?_⟩
    conv => whnf
    refine ⟨⟨rfl, rfl, show 0 + (k : Int).toNat < b.length by omega, nle rfl⟩, ?_⟩
    conv => whnf
    obtain ⟨m, hm, hm2⟩ : ∃ m : Int, (if (2 : Int) < (bif Nat.beq (0 + 1 + 0) 0 then pw else pb) then (bif Nat.beq (0 + 1 + 0) 0 then pw else pb) else 2) = m ∧ 2 ≤ m ∧ m < 256 := by
      show ∃ m : Int, (if (2 : Int) < pb then pb else 2) = m ∧ 2 ≤ m ∧ m < 256
      split
      · exact ⟨pb, rfl, by omega, by omega⟩
      · exact ⟨2, rfl, by decide, by decide⟩
    have hbl2 : (b.set k (1 - b.getD k 0)).length = 17 := by simp; omega
    refine CallK.flat [53] (f18 ((b.set k (1 - b.getD k 0)).set k m) (by simp; omega) (fun y hy => ?_)) ⟨.frz0 _ rfl rfl rfl rfl rfl (show 17 ≤ b.length by omega) (by simp; omega) ?_, trivial⟩ rfl ?_
    · rcases List.mem_or_eq_of_mem_set hy with h | rfl
      · exact hwd _ (by omega) y h
      · exact ⟨by omega, hm2.2⟩
    · try dsimp only
      refine hset hbl2 (hset hbl IsL.seq (by rw [hv1])) ?_
      exact congrArg (fun y => AV.pv (.int .u8 y)) hm
    rw [wordS_bad (lost_bad (by omega) hm2.1)]
    conv => whnf
    repeat (refine ⟨fun _ => ?_, fun h => Bool.noConfusion h⟩; conv => whnf)
    refine CallK.flat [] awake trivial rfl ?_
    conv => whnf
    exact done_bool _ _ rfl rfl rfl
  · conv => whnf
    refine CallK.flat [53] (f18 (b.set k (1 - b.getD k 0)) (by simp; omega) (hwd _ (by omega))) ⟨.frz0 _ rfl rfl rfl rfl rfl (show 17 ≤ b.length by omega) (by simp; omega) ?_, trivial⟩ rfl ?_
    · try dsimp only
      exact hset hbl IsL.seq (by rw [hv1])
    rw [wordS_bad (flip_bad hkb hbd hbo)]
    conv => whnf
    repeat (refine ⟨fun _ => ?_, fun h => Bool.noConfusion h⟩; conv => whnf)
    refine CallK.flat [] awake trivial rfl ?_
    conv => whnf
    exact done_bool _ _ rfl rfl rfl
end Go.Proofs.Ytncmpjpmcliomaa

namespace Go.Proofs.Ytncmpjpmcliomaa
open Go Go.AM
abbrev DSt := (List Int × List Int) × List Lst
def decStep (s : DSt) (x : Int) : DSt := ((pushS s.1.1 s.1.2 x).1, bif (pushS s.1.1 s.1.2 x).2.2 then s.2 ++ [(pushS s.1.1 s.1.2 x).2.1] else s.2)
def d0 : DSt := (([], []), [])
theorem decN_fold (l : List Int) : ∀ i, i ≤ l.length → decN l i = (l.take i).foldl decStep d0 := by
  intro i
  induction i with
  | zero => intro _; rfl
  | succ i ih =>
    intro hi
    rw [take_succ_getD (by omega), List.foldl_append, ← ih (by omega)]
    rfl
theorem decS_fold (l : List Int) : decS l = (l.foldl decStep d0).2 := by
  unfold decS
  rw [decN_fold l l.length (Nat.le_refl _), List.take_of_length_le (Nat.le_refl _)]
/-- A word is received. -/
def wst (s : List Int × List Lst) (v : Int) (f : Bool) : List Int × List Lst :=
  ((stepW (nextW (v, f, true) s.1)).1.2, bif (stepW (nextW (v, f, true) s.1)).2.2 then s.2 ++ [(stepW (nextW (v, f, true) s.1)).2.1] else s.2)
theorem stepW_bits (n : List Int) : (stepW n).1.1 = [] := by
  unfold stepW
  split
  · rfl
  · split <;> rfl
theorem pre_fold {bs : List Int} {w : List Int} {out : List Lst} (hl : bs.length = 17) (hb : ∀ x ∈ bs, 0 ≤ x ∧ x < 2) : ∀ k, k ≤ 16 → (bs.take k).foldl decStep (([], w), out) = ((bs.take k, w), out) := by
  intro k
  induction k with
  | zero => intro _; rfl
  | succ k ih =>
    intro hk
    have hlt : k < bs.length := by omega
    have hx := hb (bs.getD k 0) (by rw [List.getD_eq_getElem?_getD, List.getElem?_eq_getElem hlt]; exact List.getElem_mem hlt)
    have hp : pushS (bs.take k) w (bs.getD k 0) = ((bs.take (k + 1), w), (0, []), false) := by
      have hc : cut2 (bs.getD k 0) = bs.getD k 0 := by unfold cut2; rw [if_neg (by omega)]
      unfold pushS
      rw [hc, ← take_succ_getD hlt, if_pos (by rw [List.length_take]; omega)]
    rw [take_succ_getD hlt, List.foldl_append, ih (by omega)]
    show decStep ((bs.take k, w), out) (bs.getD k 0) = _
    unfold decStep
    dsimp only
    rw [hp, ← take_succ_getD hlt]
    rfl
theorem word_fold {bs : List Int} {w : List Int} {out : List Lst} {v : Int} {f : Bool} (hl : bs.length = 17) (hb : ∀ x ∈ bs, 0 ≤ x ∧ x < 2) (hw : wordS bs = (v, f, true)) : bs.foldl decStep (([], w), out) = (([], (wst (w, out) v f).1), (wst (w, out) v f).2) := by
  have h1 := pre_fold (w := w) (out := out) hl hb 16 (Nat.le_refl _)
  have hx := hb (bs.getD 16 0) (by rw [List.getD_eq_getElem?_getD, List.getElem?_eq_getElem (by omega)]; exact List.getElem_mem (by omega))
  have e : bs = bs.take 16 ++ [bs.getD 16 0] := by
    rw [← take_succ_getD (by omega), List.take_of_length_le (by omega)]
  have hp : pushS (bs.take 16) w (bs.getD 16 0) = stepW (nextW (v, f, true) w) := by
    have hc : cut2 (bs.getD 16 0) = bs.getD 16 0 := by unfold cut2; rw [if_neg (by omega)]
    unfold pushS
    rw [hc, ← e, if_neg (by omega), hw]
  have : bs.foldl decStep (([], w), out) = decStep ((bs.take 16, w), out) (bs.getD 16 0) := by
    conv => lhs; rw [e]
    rw [List.foldl_append, h1]
    rfl
  rw [this]
  unfold decStep wst
  dsimp only
  rw [hp]
  have hbits := stepW_bits (nextW (v, f, true) w)
  generalize stepW (nextW (v, f, true) w) = r at hbits
  obtain ⟨⟨r1, r2⟩, r3⟩ := r
  cases hbits
  rfl
def runP (ws : List Int) : Nat → List Int × List Lst → List Int × List Lst
  | 0, s => s
  | m + 1, s => wst (runP ws m s) (ws.getD m 0) (m == 0)
theorem ord_ok (m : Nat) : 0 ≤ ordB m ∧ ordB m < 2 := by unfold ordB; split <;> omega
theorem ord_eq (m : Nat) : (ordB m == 1) = (m == 0) := by cases m <;> rfl
theorem getD_rng {ws : List Int} (hws : ∀ y ∈ ws, 0 ≤ y ∧ y < 32768) (m : Nat) : 0 ≤ ws.getD m 0 ∧ ws.getD m 0 < 32768 := by
  rw [List.getD_eq_getElem?_getD]
  by_cases h : m < ws.length
  · rw [List.getElem?_eq_getElem h]; exact hws _ (List.getElem_mem h)
  · rw [List.getElem?_eq_none (by omega)]; exact ⟨Int.le_refl 0, show (0 : Int) < 32768 by decide⟩
theorem bitL_word {ws : List Int} (hws : ∀ y ∈ ws, 0 ≤ y ∧ y < 32768) (m : Nat) : wordS (bitL (ws.getD m 0) (ordB m)) = (ws.getD m 0, m == 0, true) := by
  rw [wordS_bitL (getD_rng hws m) (ord_ok m), ord_eq]
theorem send_fold {ws : List Int} (hws : ∀ y ∈ ws, 0 ≤ y ∧ y < 32768) (w : List Int) (out : List Lst) : ∀ m, (sendN ws m).foldl decStep (([], w), out) = (([], (runP ws m (w, out)).1), (runP ws m (w, out)).2) := by
  intro m
  induction m with
  | zero => rfl
  | succ m ih =>
    show (sendN ws m ++ bitL (ws.getD m 0) (ordB m)).foldl decStep _ = _
    rw [List.foldl_append, ih, word_fold (bitL_len _ _) (bitL_bd (ord_ok m)) (bitL_word hws m)]
    rfl
/-- A valid list. -/
def okL (x : Lst) : Prop := (0 ≤ x.1 ∧ x.1 < 32768) ∧ x.2.length = 18 ∧ ∀ y ∈ x.2, 0 ≤ y ∧ y < 32768
theorem run_pre {x : Lst} (hx : okL x) (w : List Int) (out : List Lst) : ∀ m, 1 ≤ m → m ≤ 19 → runP (allW x.1 x.2) m (w, out) = ((allW x.1 x.2).take m, out) := by
  intro m
  have hl : (allW x.1 x.2).length = 20 := by simp [allW, hx.2.1]
  induction m with
  | zero => intro h; omega
  | succ m ih =>
    intro _ hm
    show wst (runP (allW x.1 x.2) m (w, out)) ((allW x.1 x.2).getD m 0) (m == 0) = _
    have hstep : ∀ n : List Int, n.length < 20 → stepW n = (([], n), (0, []), false) := fun n hn => by unfold stepW; rw [if_pos hn]
    cases m with
    | zero =>
      have : nextW ((allW x.1 x.2).getD 0 0, true, true) (runP (allW x.1 x.2) 0 (w, out)).1 = [(allW x.1 x.2).getD 0 0] := rfl
      unfold wst
      show ((stepW (nextW _ _)).1.2, _) = _
      rw [show ((0 : Nat) == 0) = true from rfl, this, hstep [(allW x.1 x.2).getD 0 0] (show 1 < 20 by decide)]
      rfl
    | succ m =>
      rw [ih (by omega) (by omega)]
      have hne : (allW x.1 x.2).take (m + 1) ≠ [] := by
        intro h
        have := congrArg List.length h
        rw [List.length_take, hl, List.length_nil] at this
        omega
      have hnx : nextW ((allW x.1 x.2).getD (m + 1) 0, false, true) ((allW x.1 x.2).take (m + 1)) = (allW x.1 x.2).take (m + 1 + 1) := by
        rw [take_succ_getD (show m + 1 < (allW x.1 x.2).length by omega)]
        cases hq : (allW x.1 x.2).take (m + 1) with
        | nil => exact absurd hq hne
        | cons y q => rfl
      unfold wst
      dsimp only
      rw [show ((m + 1 : Nat) == 0) = false from rfl, hnx, hstep _ (by rw [List.length_take]; omega)]
      rfl
theorem run_all {x : Lst} (hx : okL x) (w : List Int) (out : List Lst) : runP (allW x.1 x.2) 20 (w, out) = ([], out ++ [x]) := by
  show wst (runP (allW x.1 x.2) 19 (w, out)) ((allW x.1 x.2).getD 19 0) false = _
  have hl : (x.1 :: x.2).length = 19 := by simp [hx.2.1]
  have e1 : (allW x.1 x.2).take 19 = x.1 :: x.2 := by unfold allW; rw [← hl, List.take_left]
  have e2 : (allW x.1 x.2).getD 19 0 = ck (x.1 :: x.2) := by unfold allW; rw [← hl]; simp [List.getD_eq_getElem?_getD]
  rw [run_pre hx w out 19 (by decide) (by decide), e1, e2]
  have hnx : nextW (ck (x.1 :: x.2), false, true) (x.1 :: x.2) = (x.1 :: x.2) ++ [ck (x.1 :: x.2)] := rfl
  have := stepW_20 (v := ck (x.1 :: x.2)) hl
  rw [if_neg (by simp)] at this
  unfold wst
  dsimp only
  rw [hnx, this]
  rfl
/-- The bits of lists. -/
def bitsOf : List Lst → List Int
  | [] => []
  | x :: l => sendN (allW x.1 x.2) 20 ++ bitsOf l
theorem bitsOf_snoc (l : List Lst) (x : Lst) : bitsOf (l ++ [x]) = bitsOf l ++ sendN (allW x.1 x.2) 20 := by
  induction l with
  | nil => simp [bitsOf]
  | cons y l ih => simp only [List.cons_append, bitsOf, ih, List.append_assoc]
theorem bitsOf_len (l : List Lst) : (bitsOf l).length = 340 * l.length := by
  induction l with
  | nil => rfl
  | cons x l ih => simp only [bitsOf, List.length_append, sendN_len, ih, List.length_cons]; omega
theorem okL_ws {x : Lst} (hx : okL x) : ∀ y ∈ allW x.1 x.2, 0 ≤ y ∧ y < 32768 := all_bd hx.1 hx.2.2
theorem bits_fold : ∀ (l : List Lst) (out : List Lst), (∀ x ∈ l, okL x) → (bitsOf l).foldl decStep (([], []), out) = (([], []), out ++ l)
  | [], out, _ => by simp [bitsOf]
  | x :: l, out, h => by
    have hx := h x (List.mem_cons_self ..)
    rw [bitsOf, List.foldl_append, send_fold (okL_ws hx), run_all hx, bits_fold l _ fun y hy => h y (List.mem_cons_of_mem _ hy), List.append_assoc]
    rfl
theorem dec_bits {l : List Lst} (h : ∀ x ∈ l, okL x) : decS (bitsOf l) = l := by
  rw [decS_fold, show d0 = (([], []), []) from rfl, bits_fold l [] h]
  rfl
theorem tail_fold {ws : List Int} (hws : ∀ y ∈ ws, 0 ≤ y ∧ y < 32768) {r : Nat} (hr : 1 ≤ r) (out : List Lst) : ∀ m, r ≤ m → ((sendN ws m).drop (17 * r)).foldl decStep (([], []), out) = (([], []), out) := by
  intro m
  induction m with
  | zero => intro h; omega
  | succ m ih =>
    intro h
    have hl := sendN_len ws m
    by_cases hrm : r ≤ m
    · show ((sendN ws m ++ bitL (ws.getD m 0) (ordB m)).drop (17 * r)).foldl decStep _ = _
      rw [List.drop_append_of_le_length (by omega), List.foldl_append, ih hrm, word_fold (bitL_len _ _) (bitL_bd (ord_ok m)) (bitL_word hws m)]
      have : (m == 0) = false := by cases m with
        | zero => omega
        | succ m => rfl
      rw [this]
      rfl
    · have hl2 := sendN_len ws (m + 1)
      rw [List.drop_of_length_le (by omega)]
      rfl
theorem bits_drop : ∀ (q : Nat) (l : List Lst), (bitsOf l).drop (340 * q) = bitsOf (l.drop q)
  | 0, l => by simp
  | q + 1, [] => by simp [bitsOf]
  | q + 1, x :: l => by
    have hl := sendN_len (allW x.1 x.2) 20
    rw [bitsOf, List.drop_append, List.drop_of_length_le (by omega), List.nil_append, show 340 * (q + 1) - (sendN (allW x.1 x.2) 20).length = 340 * q by omega, bits_drop q l]
    rfl
theorem dec_drop {l : List Lst} (h : ∀ x ∈ l, okL x) {n : Nat} (hn : n < 20 * l.length) : decS ((bitsOf l).drop (17 * n)) = l.drop ((n + 19) / 20) := by
  obtain ⟨q, r, hq, hr⟩ : ∃ q r, n = 20 * q + r ∧ r < 20 := ⟨n / 20, n % 20, by omega, by omega⟩
  have e1 : 17 * n = 340 * q + 17 * r := by omega
  rw [e1, ← List.drop_drop, bits_drop]
  have hql : q < l.length := by omega
  have h' : ∀ x ∈ l.drop q, okL x := fun x hx => h x (List.mem_of_mem_drop hx)
  by_cases hr0 : r = 0
  · subst hr0
    rw [show (n + 19) / 20 = q by omega]
    exact dec_bits h'
  · rw [show (n + 19) / 20 = q + 1 by omega, List.drop_eq_getElem_cons hql, bitsOf]
    rw [List.drop_eq_getElem_cons hql] at h'
    have hl := sendN_len (allW l[q].1 l[q].2) 20
    rw [List.drop_append_of_le_length (by omega), decS_fold, List.foldl_append, show d0 = (([], []), []) from rfl, tail_fold (okL_ws (h' _ (List.mem_cons_self ..))) (by omega) [] 20 (by omega),
      bits_fold _ [] fun x hx => h' x (List.mem_cons_of_mem _ hx)]
    rfl
end Go.Proofs.Ytncmpjpmcliomaa

namespace Go.Proofs.Ytncmpjpmcliomaa
open Go Go.AM
attribute [local irreducible] AWP CallK PureCall SubS HeapCall
def ownsP (L : List Lst) : PV := .seq 54 19 L.length fun i j => .int .u16 (bif Nat.beq j 0 then (L.getD i (0, [])).1 else (L.getD i (0, [])).2.getD (j - 1) 0)
def ownS (x : Lst) : Lst := (x.1 % 32768, ofD x.2)
def okO (x : Lst) : Prop := W x.1 ∧ x.2.length = 18 ∧ ∀ y ∈ x.2, W y
theorem ownS_ok {x : Lst} (h : okO x) : okL (ownS x) := ⟨by unfold ownS; dsimp only; omega, by simp [ownS, ofD, h.2.1], ofD_bd h.2.2⟩
def xsOf (L : List Lst) (i : Nat) : List Lst := (L.take i).map ownS
theorem xsOf_succ {L : List Lst} {i : Nat} (h : i < L.length) : xsOf L (i + 1) = xsOf L i ++ [ownS (L.getD i (0, []))] := by
  unfold xsOf
  rw [List.take_add_one, List.getElem?_eq_getElem h, List.map_append, List.getD_eq_getElem?_getD, List.getElem?_eq_getElem h]
  rfl
theorem f23 (L : List Lst) (hl : L.length < 2 ^ 62) (hL : ∀ x ∈ L, okO x) : PureCall Try.prog 23 [.pv (ownsP L)] (tupV [.pv (lsP (xsOf L 12)), .pv (sb (bitsOf (xsOf L 12)))]) := by
  refine PureCall.run tab_ok mixed (by kernel_rfl) Try.func23 rfl rfl rfl ?_
  conv => whnf
  refine ex_loop tab_ok mixed (fun x : Nat × Nat × Nat => x.1 ≤ L.length ∧ x.1 ≤ 12) (fun x : Nat × Nat × Nat => mkSt 39 [(0, .pv (ownsP L)), (6, i64 x.1), (4, .row 1003 x.2.1 2 0 x.1), (5, .row 1004 x.2.2 1 0 (340 * x.1))]
      [(1003, outR x.2.1 (xsOf L x.1)), (1004, rowL 5 .u8 x.2.2 (bitsOf (xsOf L x.1)))]) (fun x => 12 - x.1) (0, 0, 0) ⟨Nat.zero_le _, Nat.zero_le _⟩ (SubS.mkN [] [] rfl rfl rfl ?_ ?_) fun x hx => ?_
  · exact ⟨⟨_, rfl, .same⟩, ⟨_, rfl, .same⟩, ⟨_, rfl, .void _ _ _⟩, ⟨_, rfl, .void _ _ _⟩, trivial⟩
  · exact ⟨.inr ⟨rfl, rfl⟩, .inr ⟨rfl, rfl⟩, trivial⟩
  obtain ⟨i, g1, g2⟩ := x
  have hi : i ≤ L.length := hx.1
  have hi12 : i ≤ 12 := hx.2
  have hxl : (xsOf L i).length = i := by simp [xsOf]; omega
  have hbl := bitsOf_len (xsOf L i)
  have fin : xsOf L 12 = xsOf L i → ∀ {H : Heap} , H 1003 = some (outR g1 (xsOf L i)) → H 1004 = some (rowL 5 .u8 g2 (bitsOf (xsOf L i))) → ∃ B, VLe H B [] (.tup 2 (getL [.row 1003 g1 2 0 i, .row 1004 g2 1 0 (340 * i)])) (tupV [.pv (lsP (xsOf L 12)), .pv (sb (bitsOf (xsOf L 12)))]) := fun e H h1 h2 => by
    rw [e]
    refine done_tup (l := [.row 1003 g1 2 0 i, .row 1004 g2 1 0 (340 * i)]) _ [1003, 1004] rfl ⟨?_, ?_, trivial⟩
    · show VLe H [1003, 1004] [] (.row 1003 g1 2 0 i) (.pv (.seq 26 2 (xsOf L i).length _))
      rw [hxl]
      refine .frz _ _ _ _ _ (outR g1 (xsOf L i)) _ _ rfl h1 rfl rfl (show 0 + i ≤ (xsOf L i).length by omega) fun a j ha hj => ?_
      rw [Nat.zero_add]
      exact .same
    · exact .frz0 (rowL 5 .u8 g2 (bitsOf (xsOf L i))) rfl h2 rfl rfl rfl (show 340 * i ≤ (bitsOf (xsOf L i)).length by omega) (by omega) IsL.seq
  conv => whnf
  refine ⟨fun hc => ?_, fun hc => ?_⟩
  · have hc : decide ((i : Int) < (L.length : Int)) = true := hc
    have hc := of_decide_eq_true hc
    conv => whnf
    repeat (refine ⟨fun _ => ?_, fun h => Bool.noConfusion h⟩; conv => whnf)
    refine ⟨fun hd => ?_, fun hd => ?_⟩
    · have hd : (i : Int) < 12 := of_decide_eq_true hd
      have hlt : i < L.length := by omega
      conv => whnf
      refine ⟨⟨by omega, hc, rfl⟩, ?_⟩
      conv => whnf
      refine ⟨⟨Nat.le_refl _⟩, ?_⟩
      conv => whnf
      obtain ⟨ho1, ho2, ho3⟩ := hL (L.getD i (0, [])) (by rw [List.getD_eq_getElem?_getD, List.getElem?_eq_getElem hlt]; exact List.getElem_mem hlt)
      have hsucc := xsOf_succ hlt
      obtain ⟨k1, k2, k3⟩ := ownS_ok (x := L.getD i (0, [])) ⟨ho1, ho2, ho3⟩
      have hc25 := f25 (L.getD i (0, [])).1 (L.getD i (0, [])).2 ho1 ho3 ho2
      have hc14 := f14 (ownS (L.getD i (0, []))).1 (ownS (L.getD i (0, []))).2 ⟨k1.1, by omega⟩ (fun y hy => ⟨(k3 y hy).1, by have := (k3 y hy).2; omega⟩) (by omega)
      rw [send_all k1 k3 k2] at hc14
      have hBl := sendN_len (allW (ownS (L.getD i (0, []))).1 (ownS (L.getD i (0, []))).2) 20
      have hbs := bitsOf_snoc (xsOf L i) (ownS (L.getD i (0, [])))
      rw [← hsucc] at hbs
      refine CallK.drop [] hc25 ⟨.agg _ _ _ fun j hj => .same, trivial⟩ ?_
      rw [show (L.getD i (0, [])).1 % 32768 = (ownS (L.getD i (0, []))).1 from rfl, show ofD (L.getD i (0, [])).2 = (ownS (L.getD i (0, []))).2 from rfl]
      generalize hB : sendN (allW (ownS (L.getD i (0, []))).1 (ownS (L.getD i (0, []))).2) 20 = B at *
      generalize ownS (L.getD i (0, [])) = e at *
      obtain ⟨eid, ed⟩ := e
      conv => whnf
      repeat (refine ⟨⟨rfl, rfl, nle rfl, nle rfl⟩, ?_⟩; conv => whnf)
      refine CallK.drop [] hc14 ⟨.agg _ _ _ fun j hj => ?_, trivial⟩ ?_
      · match j with
        | 0 => exact .same
        | 1 => exact .same
      conv => whnf
      repeat (refine ⟨⟨rfl, rfl, nle rfl, nle rfl⟩, ?_⟩; conv => whnf)
      refine ⟨⟨⟨rfl, rfl, rfl, nle rfl⟩, rfl, rfl, rfl, rfl, rfl, hxl.symm, show (i + 1) * 32 ≤ 140737488355328 by omega⟩, ?_⟩
      conv => whnf
      refine ⟨⟨rfl, rfl, rfl, rfl, rfl, rfl, show 340 * i = (bitsOf (xsOf L i)).length by omega, show (340 * i + B.length) * 1 ≤ 140737488355328 by omega⟩, ?_⟩
      conv => whnf
      refine ⟨⟨by unfold inI64; omega⟩, ?_⟩
      conv => whnf
      refine ⟨(i + 1, g1 + 1, g2 + 1), ⟨by show i + 1 ≤ L.length; omega, by show i + 1 ≤ 12; omega⟩, SubS.mkN [] [(1003, 1003), (1004, 1004)] rfl rfl rfl ?_ ?_, by show 12 - (i + 1) < 12 - i; omega⟩
      · exact ⟨⟨_, rfl, .same⟩, ⟨_, rfl, .same⟩, ⟨_, rfl, .row _ _ _ _ _ _ _ _ _ rfl rfl rfl rfl⟩, ⟨_, rfl, .row _ _ _ _ _ _ _ _ _ rfl rfl rfl (show 340 * i + B.length = 340 * (i + 1) by omega)⟩, trivial⟩
      show AllH _ _ _ [(1003, outR _ (xsOf L (i + 1))), (1004, rowL 5 .u8 _ (bitsOf (xsOf L (i + 1))))]
      rw [hbs, hsucc]
      refine ⟨.inl ⟨_, _, rfl, rfl, rfl, rfl, rfl, rfl, (show (xsOf L i ++ [(eid, ed)]).length ≤ i + 1 by simp [hxl]), fun a j ha hj => ?_⟩, .inl ⟨_, _, rfl, rfl, rfl, OLe.rowL rfl rfl rfl (show (bitsOf (xsOf L i) ++ B).length ≤ 340 * i + B.length by rw [List.length_append]; omega) ?_⟩, trivial⟩
      · have ha : a < i + 1 := by have : a < (xsOf L i ++ [(eid, ed)]).length := ha; simp [hxl] at this; omega
        dsimp only
        refine VLe.snoc ha (fun h => ?_) fun h => ?_
        · show VLe _ _ _ _ (.pv (cellP ((xsOf L i ++ [(eid, ed)]).getD a (0, [])) j))
          rw [show (xsOf L i ++ [(eid, ed)]).getD a (0, []) = (xsOf L i).getD a (0, []) by rw [List.getD_eq_getElem?_getD, List.getD_eq_getElem?_getD, List.getElem?_append_left (by omega)]]
          exact .same
        · show VLe _ _ _ _ (.pv (cellP ((xsOf L i ++ [(eid, ed)]).getD a (0, [])) j))
          rw [show (xsOf L i ++ [(eid, ed)]).getD a (0, []) = (eid, ed) by subst h; rw [List.getD_eq_getElem?_getD, List.getElem?_append_right (by omega)]; simp [hxl]]
          match j with
          | 0 => exact .same
          | 1 => exact .same
      · try dsimp only
        exact IsL.cat' (bitsOf (xsOf L i)) B rfl rfl (by omega) IsL.seq IsL.seq
    · have hd : ¬ (i : Int) < 12 := of_decide_eq_false hd
      have e : xsOf L 12 = xsOf L i := by rw [show i = 12 by omega]
      conv => whnf
      exact fin e rfl rfl
  · have hc : decide ((i : Int) < (L.length : Int)) = false := hc
    have hc := of_decide_eq_false hc
    have e : xsOf L 12 = xsOf L i := by unfold xsOf; rw [List.take_of_length_le (by omega), List.take_of_length_le (by omega)]
    conv => whnf
    repeat (refine ⟨fun h => Bool.noConfusion h, fun _ => ?_⟩; conv => whnf)
    exact fin e rfl rfl
end Go.Proofs.Ytncmpjpmcliomaa

namespace Go.Proofs.Ytncmpjpmcliomaa
open Go Go.AM
attribute [local irreducible] AWP CallK PureCall SubS HeapCall
theorem sendN_bd {ws : List Int} : ∀ m, ∀ x ∈ sendN ws m, 0 ≤ x ∧ x < 2
  | 0, x, hx => by cases hx
  | m + 1, x, hx => by
    rcases List.mem_append.mp hx with h | h
    · exact sendN_bd m x h
    · exact bitL_bd (ord_ok m) x h
theorem bitsOf_bd : ∀ {l : List Lst}, (∀ x ∈ l, okL x) → ∀ x ∈ bitsOf l, 0 ≤ x ∧ x < 256
  | [], _, x, hx => by cases hx
  | y :: l, h, x, hx => by
    rcases List.mem_append.mp hx with hx | hx
    · have := sendN_bd 20 x hx; omega
    · exact bitsOf_bd (fun z hz => h z (List.mem_cons_of_mem _ hz)) x hx
theorem f6 (L : List Lst) (a : Int) (hl : L.length < 2 ^ 60) (hL : ∀ x ∈ L, okO x) (ha : W a) : PureCall Try.prog 6 [.pv (ownsP L), i16 a] (bb true) := by
  have hxs : ∀ x ∈ xsOf L 12, okL x := fun x hx => by
    obtain ⟨y, hy, rfl⟩ := List.mem_map.mp hx
    exact ownS_ok (hL y (List.mem_of_mem_take hy))
  have hxl : (xsOf L 12).length ≤ 12 := by simp [xsOf]; omega
  have hc := f23 L (by omega) hL
  have hd1 := dec_bits hxs
  have hd2 := fun n hn => dec_drop hxs (n := n) hn
  have hbl := bitsOf_len (xsOf L 12)
  have hbits : ∀ x ∈ bitsOf (xsOf L 12), 0 ≤ x ∧ x < 256 := bitsOf_bd hxs
  have hsm : ∀ x ∈ xsOf L 12, x.2.length < 2 ^ 62 := fun x hx => by rw [(hxs x hx).2.1]; decide
  generalize xsOf L 12 = xs at *
  generalize bitsOf xs = B at *
  refine PureCall.run tab_ok mixed (by kernel_rfl) Try.func6 rfl rfl rfl ?_
  conv => whnf
  refine CallK.drop [] hc ⟨.same, trivial⟩ ?_
  conv => whnf
  refine ⟨⟨show inI64 (340 * (xs.length : Int)) by unfold inI64; omega⟩, ?_⟩
  conv => whnf
  have hq1 : ((B.length : Int) != 340 * (xs.length : Int)) = false := by rw [bne_eq_false_iff_eq]; omega
  refine ⟨fun _ => ?_, fun h => absurd ((hq1.symm.trans h)) (by decide)⟩
  conv => whnf
  repeat (refine ⟨fun _ => ?_, fun h => Bool.noConfusion h⟩; conv => whnf)
  refine CallK.drop [] (f21 B (by omega) hbits) ⟨.same, trivial⟩ ?_
  rw [hd1]
  conv => whnf
  repeat (refine ⟨fun _ => ?_, fun h => Bool.noConfusion h⟩; conv => whnf)
  refine CallK.flat [] (f20 xs xs (by omega) (by omega) hsm hsm) ⟨.same, .same, trivial⟩ rfl ?_
  rw [decide_eq_true (rfl : xs = xs)]
  conv => whnf
  repeat (refine ⟨fun _ => ?_, fun h => Bool.noConfusion h⟩; conv => whnf)
  refine ⟨fun h => Bool.noConfusion h, fun _ => ?_⟩
  conv => whnf
  refine ⟨fun h0 => ?_, fun h0 => ?_⟩
  · conv => whnf
    refine CallK.flat [] awake trivial rfl ?_
    conv => whnf
    exact done_bool _ _ rfl rfl rfl
  have hpos : 0 < xs.length := by
    have h0 : ((xs.length : Int) == 0) = false := h0
    have : ¬ (xs.length : Int) = 0 := by simpa using h0
    omega
  conv => whnf
  refine ⟨⟨show inI64 (20 * (xs.length : Int)) by unfold inI64; omega⟩, ?_⟩
  conv => whnf
  refine ⟨⟨show 20 * (xs.length : Int) ≠ 0 by omega⟩, ?_⟩
  conv => whnf
  obtain ⟨n, hn, hn20⟩ : ∃ n : Nat, Int.tmod (IntKind.i64.wrap a) (20 * (xs.length : Int)) = n ∧ n < 20 * xs.length := by
    unfold W at ha
    rw [wi64 (by omega) (by omega), Int.tmod_eq_emod_of_nonneg ha.1]
    have h1 := Int.emod_nonneg a (show 20 * (xs.length : Int) ≠ 0 by omega)
    have h2 := Int.emod_lt_of_pos a (show (0 : Int) < 20 * (xs.length : Int) by omega)
    exact ⟨(a % (20 * (xs.length : Int))).toNat, by omega, by omega⟩
  rw [hn]
  refine ⟨⟨show inI64 (17 * (n : Int)) by unfold inI64; omega⟩, ?_⟩
  conv => whnf
  refine ⟨⟨show (0 : Int) ≤ 17 * n by omega, show 17 * (n : Int) ≤ B.length by omega, rfl⟩, ?_⟩
  conv => whnf
  have hdl : (B.drop (17 * n)).length = B.length - 17 * n := List.length_drop
  have hlo : (17 * (n : Int)).toNat = 17 * n := by omega
  have hdB : ∀ x ∈ B.drop (17 * n), 0 ≤ x ∧ x < 256 := fun x hx => hbits x (List.mem_of_mem_drop hx)
  have hc21 := f21 (B.drop (17 * n)) (by omega) hdB
  rw [hd2 n hn20] at hc21
  refine ⟨_, [], ⟨_, hc21, ⟨.seqL rfl (by omega) (fun j hj => ?_), trivial⟩, .inr rfl⟩, ?_⟩
  · show PV.int .u8 (B.getD ((17 * (n : Int)).toNat + j) 0) = _
    rw [hlo, List.getD_eq_getElem?_getD, List.getD_eq_getElem?_getD, List.getElem?_drop]
  conv => whnf
  refine ⟨⟨show inI64 ((n : Int) + 19) by unfold inI64; omega⟩, ?_⟩
  conv => whnf
  have hq : Int.tdiv ((n : Int) + 19) 20 = ((n + 19) / 20 : Nat) := by rw [Int.tdiv_eq_ediv_of_nonneg (by omega)]; omega
  refine ⟨⟨by decide, show inI64 (Int.tdiv ((n : Int) + 19) 20) by rw [hq]; unfold inI64; omega⟩, ?_⟩
  conv => whnf
  refine ⟨⟨show (0 : Int) ≤ Int.tdiv ((n : Int) + 19) 20 by omega, show Int.tdiv ((n : Int) + 19) 20 ≤ xs.length by omega, rfl⟩, ?_⟩
  conv => whnf
  have hsm2 : ∀ x ∈ xs.drop ((n + 19) / 20), x.2.length < 2 ^ 62 := fun x hx => hsm x (List.mem_of_mem_drop hx)
  have hxd : (xs.drop ((n + 19) / 20)).length = xs.length - (n + 19) / 20 := List.length_drop
  have hle2 : PVle (.seq 26 2 ((xs.length : Int) - Int.tdiv ((n : Int) + 19) 20).toNat fun i j => cellP (xs.getD ((Int.tdiv ((n : Int) + 19) 20).toNat + i) (0, [])) j) (lsP (xs.drop ((n + 19) / 20))) := by
    rw [hq]
    show PVle _ (.seq 26 2 (xs.drop ((n + 19) / 20)).length _)
    rw [show ((xs.length : Int) - (((n + 19) / 20 : Nat) : Int)).toNat = (xs.drop ((n + 19) / 20)).length by omega]
    refine .seq _ _ _ _ _ _ fun i j hi hj => ?_
    rw [show (((n + 19) / 20 : Nat) : Int).toNat = (n + 19) / 20 by omega, List.getD_eq_getElem?_getD, List.getD_eq_getElem?_getD, List.getElem?_drop]
    exact .refl _
  refine ⟨_, [], ⟨_, f20 (xs.drop ((n + 19) / 20)) (xs.drop ((n + 19) / 20)) (by omega) (by omega) hsm2 hsm2, ⟨.same, .pv _ _ hle2, trivial⟩, .inl rfl⟩, ?_⟩
  rw [decide_eq_true (rfl : xs.drop ((n + 19) / 20) = xs.drop ((n + 19) / 20))]
  conv => whnf
  refine ⟨fun _ => ?_, fun h => Bool.noConfusion h⟩
  refine ⟨_, [], ⟨_, awake, trivial, .inl rfl⟩, ?_⟩
  conv => whnf
  refine ⟨rfl, ?_⟩
  conv => whnf
  exact done_bool _ _ rfl rfl rfl
end Go.Proofs.Ytncmpjpmcliomaa

namespace Go.Proofs.Ytncmpjpmcliomaa
open Go Go.AM
attribute [local irreducible] AWP CallK PureCall SubS HeapCall
theorem f26H : HeapCall Try.prog 26 [] [] (fun r Hout => ∃ g, r = .agg 2 (fun k => bif Nat.beq k 0 then i16 1 else .row 300 g 1 0 18) ∧ Hout = [(300, rowL 23 .u16 g twos)]) := by
  refine HeapCall.run tab_ok mixed (by kernel_rfl) Try.func26 rfl rfl rfl ?_
  conv => whnf
  repeat (refine ⟨⟨rfl, rfl, nle rfl, nle rfl⟩, ?_⟩; conv => whnf)
  refine ex_loop tab_ok mixed (fun x : Nat × Nat => x.1 ≤ 18) (fun x : Nat × Nat => mkSt 14 [(0, .ptr 0 0 2 0 0), (1, .ptr 1 0 2 0 0), (2, i64 x.1)]
      [(0, ⟨26, 0, 2, 1, fun _ j => bif Nat.beq j 0 then i16 0 else .nilS⟩), (1, ⟨26, 0, 2, 1, fun _ j => bif Nat.beq j 0 then i16 1 else .row 1000 x.2 1 0 x.1⟩), (1000, rowL 23 .u16 x.2 (List.replicate x.1 2))]) (fun x => 18 - x.1) (0, 0) (Nat.zero_le _) (SubS.mkN [] [(0, 0), (1, 1)] rfl rfl rfl ?_ ?_) fun x hx => ?_
  · exact ⟨⟨_, rfl, .ptr _ _ _ _ _ _ _ _ _ rfl rfl rfl rfl⟩, ⟨_, rfl, .ptr _ _ _ _ _ _ _ _ _ rfl rfl rfl rfl⟩, ⟨_, rfl, .same⟩, trivial⟩
  · refine ⟨.inl ⟨_, _, rfl, rfl, rfl, rfl, rfl, rfl, Nat.le_refl _, fun i j hi hj => ?_⟩, .inl ⟨_, _, rfl, rfl, rfl, rfl, rfl, rfl, Nat.le_refl _, fun i j hi hj => ?_⟩, .inr ⟨rfl, rfl⟩, trivial⟩
    · match i, j with
      | 0, 0 => exact .same
      | 0, 1 => exact .nils
    · match i, j with
      | 0, 0 => exact .same
      | 0, 1 => exact .void _ _ _
  obtain ⟨i, g⟩ := x
  have hi : i ≤ 18 := hx
  conv => whnf
  refine ⟨fun hc => ?_, fun hc => ?_⟩
  · have hc : (i : Int) < 18 := of_decide_eq_true hc
    conv => whnf
    repeat (refine ⟨⟨rfl, rfl, nle rfl, nle rfl⟩, ?_⟩; conv => whnf)
    refine ⟨⟨⟨rfl, rfl, rfl, nle rfl⟩, rfl, rfl, rfl, rfl, rfl, (show i = (List.replicate i 2).length by simp), show (i + 1) * 2 ≤ 140737488355328 by omega⟩, ?_⟩
    conv => whnf
    repeat (refine ⟨⟨rfl, rfl, nle rfl, nle rfl⟩, ?_⟩; conv => whnf)
    refine ⟨⟨by unfold inI64; omega⟩, ?_⟩
    conv => whnf
    refine ⟨(i + 1, g + 1), by show i + 1 ≤ 18; omega, SubS.mkN [] [(0, 0), (1, 1), (1000, 1000)] rfl rfl rfl ?_ ?_, by show 18 - (i + 1) < 18 - i; omega⟩
    · exact ⟨⟨_, rfl, .ptr _ _ _ _ _ _ _ _ _ rfl rfl rfl rfl⟩, ⟨_, rfl, .ptr _ _ _ _ _ _ _ _ _ rfl rfl rfl rfl⟩, ⟨_, rfl, .same⟩, trivial⟩
    · refine ⟨.inl ⟨_, _, rfl, rfl, rfl, rfl, rfl, rfl, Nat.le_refl _, fun i' j hi' hj => ?_⟩, .inl ⟨_, _, rfl, rfl, rfl, rfl, rfl, rfl, Nat.le_refl _, fun i' j hi' hj => ?_⟩, .inl ⟨_, _, rfl, rfl, rfl, OLe.rowL rfl rfl rfl (by simp) ?_⟩, trivial⟩
      · match i', j with
        | 0, 0 => exact .same
        | 0, 1 => exact .nils
      · match i', j with
        | 0, 0 => exact .same
        | 0, 1 => exact .row _ _ _ _ _ _ _ _ _ rfl rfl rfl rfl
      · try dsimp only
        refine IsL.cat' (List.replicate i 2) [2] ?_ rfl (by simp) IsL.seq (IsL.one rfl)
        rw [List.replicate_succ']
  · have hc : ¬ (i : Int) < 18 := of_decide_eq_false hc
    have : i = 18 := by omega
    conv => whnf
    repeat (refine ⟨⟨rfl, rfl, nle rfl, nle rfl⟩, ?_⟩; conv => whnf)
    subst this
    refine ⟨_, _, ⟨g, rfl, rfl⟩, SubS.mkN [] [(300, 1000)] rfl rfl rfl ⟨⟨_, rfl, .agg _ _ _ fun k hk => ?_⟩, trivial⟩ ⟨.inl ⟨_, _, rfl, rfl, rfl, OLe.rowL rfl rfl rfl (by simp [rowL, twos]) ?_⟩, trivial⟩⟩
    · match k with
      | 0 => exact .same
      | 1 => exact .row _ _ _ _ _ _ _ _ _ rfl rfl rfl rfl
    · show IsL _ _ (List.replicate 18 2)
      exact IsL.seq
theorem f14H (id : Int) (d : List Int) (hid : W id) (hd : ∀ x ∈ d, W x) (hl : d.length < 2 ^ 62) (he0 : (wordsS id d).2 = 0) :
    HeapCall Try.prog 14 [listV id d] [] (fun r Hout => ∃ g, r = tupV [.row 300 g 1 0 340, i64 0] ∧ Hout = [(300, rowL 5 .u8 g (sendN (wordsS id d).1 20))]) := by
  obtain ⟨ws, hws⟩ : ∃ ws, ws = (wordsS id d).1 := ⟨_, rfl⟩
  obtain ⟨e, he⟩ : ∃ e, e = (wordsS id d).2 := ⟨_, rfl⟩
  have hok := words_ok hid hd
  rw [← hws, ← he] at hok
  rw [← he] at he0
  rw [← hws]
  refine HeapCall.run tab_ok mixed (by kernel_rfl) Try.func14 rfl rfl rfl ?_
  conv => whnf
  repeat (refine ⟨⟨rfl, rfl, nle rfl, nle rfl⟩, ?_⟩; conv => whnf)
  refine CallK.drop [] (f12 id d hid hd hl) ⟨.agg _ _ _ fun i hi => ?_, trivial⟩ ?_
  · match i with
    | 0 => exact .same
    | 1 => exact .same
  rw [show wordsV (wordsS id d) = tupV [.pv (sw ws), i64 e] by rw [hws, he]; rfl]
  conv => whnf
  refine ⟨fun hc => ?_, fun hc => ?_⟩
  · rw [he0] at hc
    exact absurd hc (by decide)
  obtain ⟨hlen, hrange⟩ := hok he0
  conv => whnf
  refine ⟨⟨show inI64 (17 * (ws.length : Int)) by unfold inI64; omega⟩, ?_⟩
  conv => whnf
  refine ⟨⟨by omega, show (0 : Int) ≤ 17 * (ws.length : Int) by omega, show 17 * (ws.length : Int) ≤ 140737488355328 by omega, show 17 * (ws.length : Int) * 1 ≤ 281474976710656 by omega⟩, ?_⟩
  conv => whnf
  repeat (refine ⟨⟨rfl, rfl, nle rfl, nle rfl⟩, ?_⟩; conv => whnf)
  refine ex_loop tab_ok mixed (fun x : Nat × Nat => x.1 ≤ 20) (fun x : Nat × Nat => mkSt 39 [(23, .pv (sw ws)), (24, i64 20), (25, i64 x.1), (7, u8 (ordB x.1)), (6, .ptr 6 0 1 0 0)]
      [(6, ⟨30, 0, 1, 1, fun _ _ => .row 22 x.2 1 0 (17 * x.1)⟩), (22, rowL 5 .u8 x.2 (sendN ws x.1))]) (fun x => 20 - x.1) (0, 0) (Nat.zero_le _) (SubS.mk [] rfl ?_ ?_) fun x hx => ?_
  · exact ⟨⟨_, rfl, .same⟩, ⟨_, rfl, .int (by omega)⟩, ⟨_, rfl, .same⟩, ⟨_, rfl, .same⟩, ⟨_, rfl, .ptr _ _ _ _ _ _ _ _ _ rfl rfl rfl rfl⟩, trivial⟩
  · refine ⟨.inl ⟨_, _, rfl, rfl, rfl, rfl, rfl, rfl, Nat.le_refl _, fun i j hi hj => ?_⟩, .inl ⟨_, _, rfl, rfl, rfl, OLe.rowL rfl rfl rfl (Nat.le_refl _) IsL.nil⟩, trivial⟩
    match i, j with
    | 0, 0 => exact .row _ _ _ _ _ _ _ _ _ rfl rfl rfl rfl
  obtain ⟨i, g⟩ := x
  have hi : i ≤ 20 := hx
  conv => whnf
  refine ⟨fun hc => ?_, fun hc => ?_⟩
  · have hc : (i : Int) < 20 := of_decide_eq_true hc
    have hlt : i < ws.length := by omega
    have hwr := hrange (ws.getD i 0) (by rw [List.getD_eq_getElem?_getD, List.getElem?_eq_getElem hlt]; exact List.getElem_mem hlt)
    have hor : 0 ≤ ordB i ∧ ordB i < 2 := by unfold ordB; split <;> omega
    conv => whnf
    refine ⟨⟨by omega, by omega, rfl⟩, ?_⟩
    conv => whnf
    refine ⟨⟨Nat.le_refl _⟩, ?_⟩
    conv => whnf
    refine CallK.drop [] (f33 (ws.getD i 0) (ordB i)) ⟨.same, .same, trivial⟩ ?_
    conv => whnf
    obtain ⟨L, hL⟩ : ∃ L, L = bitL (ws.getD i 0) (ordB i) := ⟨_, rfl⟩
    let S : List (List AV) → ASt := fun pre => mkSt 39 [(23, .pv (sw ws)), (24, i64 20), (25, i64 i), (7, u8 (ordB i)), (6, .ptr 6 0 1 0 0), (31, bitsF (ws.getD i 0) (ordB i))]
      [(6, ⟨30, 0, 1, 1, fun _ _ => .row 22 (g + pre.length) 1 0 (17 * i + pre.length)⟩), (22, rowL 5 .u8 (g + pre.length) (sendN ws i ++ L.take pre.length))]
    refine AWP.sub (st' := S []) (SubS.mk [] rfl ?_ ?_) (awp_range (S := S) (caps' := bitsCaps (ws.getD i 0) (ordB i)) (fun _ => rfl) (fun _ => rfl) rfl rfl (fun k hk => ?_) ?_ ?_ (f41 _ _ hwr hor) ?_ ?_)
    · refine ⟨⟨_, rfl, .same⟩, ⟨_, rfl, .same⟩, ⟨_, rfl, .same⟩, ⟨_, rfl, .same⟩, ⟨_, rfl, .ptr _ _ _ _ _ _ _ _ _ rfl rfl rfl rfl⟩, ⟨_, rfl, .func _ _ _ _ _ _ _ (fun i hi => absurd hi (Nat.not_lt_zero i)) fun k hk => ?_⟩, trivial⟩
      match k with
      | 0 => exact .rptr _ _ _ fun _ _ => .refl _
      | 1 => exact .rptr _ _ _ fun _ _ => .refl _
    · refine ⟨.inl ⟨_, _, rfl, rfl, rfl, rfl, rfl, rfl, Nat.le_refl _, fun i j hi hj => ?_⟩, .inl ⟨_, _, rfl, rfl, rfl, OLe.rowL rfl rfl rfl (by show (sendN ws i ++ L.take 0).length ≤ _; simp [rowL]) (by show IsL _ _ (sendN ws i ++ L.take 0); rw [List.take_zero, List.append_nil]; exact IsL.seq)⟩, trivial⟩
      match i, j with
      | 0, 0 => exact .row _ _ _ _ _ _ _ _ _ rfl rfl rfl rfl
    · match k with
      | 0 => exact .rptr _ _ _ fun _ _ => .refl _
      | 1 => exact .rptr _ _ _ fun _ _ => .refl _
    · intro p hp
      simp at hp
      subst hp
      show 32 < 39
      decide
    · intro pre x h
      rw [(valid_round h).2]; rfl
    · intro pre x h
      obtain ⟨hpl, rfl⟩ := valid_round h
      rw [← hL] at hpl ⊢
      refine ex_sound tab_ok mixed _ _ _ ?_
      conv => whnf
      refine ex_sound tab_ok mixed _ _ _ ?_
      conv => whnf
      repeat (refine ⟨⟨rfl, rfl, nle rfl, nle rfl⟩, ?_⟩; conv => whnf)
      have hLl : L.length = 17 := by rw [hL]; simp [bitL, dataB]
      have hsl : (sendN ws i ++ L.take pre.length).length = 17 * i + pre.length := by rw [List.length_append, sendN_len, List.length_take]; omega
      refine ⟨⟨⟨rfl, rfl, rfl, nle rfl⟩, rfl, rfl, rfl, rfl, rfl, hsl.symm, show (17 * i + pre.length + 1) * 1 ≤ 140737488355328 by omega⟩, ?_⟩
      conv => whnf
      repeat (refine ⟨⟨rfl, rfl, nle rfl, nle rfl⟩, ?_⟩; conv => whnf)
      have hpx : (pre ++ [[u8 (L.getD pre.length 0)]]).length = pre.length + 1 := by simp
      refine SubS.mk [] rfl ?_ ?_
      · refine ⟨⟨_, rfl, .same⟩, ⟨_, rfl, .same⟩, ⟨_, rfl, .same⟩, ⟨_, rfl, .same⟩, ⟨_, rfl, .ptr _ _ _ _ _ _ _ _ _ rfl rfl rfl rfl⟩, ⟨_, rfl, .func _ _ _ _ _ _ _ (fun i hi => absurd hi (Nat.not_lt_zero i)) fun k hk => ?_⟩, trivial⟩
        match k with
        | 0 => exact .rptr _ _ _ fun _ _ => .refl _
        | 1 => exact .rptr _ _ _ fun _ _ => .refl _
      · have hcat : sendN ws i ++ L.take (pre ++ [[u8 (L.getD pre.length 0)]]).length = (sendN ws i ++ L.take pre.length) ++ [L.getD pre.length 0] := by
          rw [hpx, take_succ_getD hpl, List.append_assoc]
        refine ⟨.inl ⟨_, _, rfl, rfl, rfl, rfl, rfl, rfl, Nat.le_refl _, fun i' j' hi' hj' => ?_⟩, .inl ⟨_, _, rfl, rfl, rfl, OLe.rowL rfl (by rw [hpx]; rfl) rfl ?_ ?_⟩, trivial⟩
        · match i', j' with
          | 0, 0 => exact .row _ _ _ _ _ _ _ _ _ rfl (by rw [hpx]; rfl) rfl (by rw [hpx]; rfl)
        · rw [hcat, List.length_append, hsl]
          exact Nat.le_refl _
        · rw [hcat]
          try dsimp only
          exact IsL.cat' _ _ rfl rfl hsl.symm IsL.seq (IsL.one rfl)
    · rintro xs rfl
      conv => whnf
      refine ⟨⟨by unfold inI64; omega⟩, ?_⟩
      conv => whnf
      have hLl : L.length = 17 := by rw [hL]; simp [bitL, dataB]
      have hx : (logB (bitL (ws.getD i 0) (ordB i))).length = 17 := by rw [← hL]; simpa [logB] using hLl
      have hcat : sendN ws i ++ L.take (logB (bitL (ws.getD i 0) (ordB i))).length = sendN ws (i + 1) := by
        rw [hx, List.take_of_length_le (by omega), hL]; rfl
      refine ⟨(i + 1, g + 17), by omega, SubS.mk [] rfl ?_ ?_, by show 20 - (i + 1) < 20 - i; omega⟩
      · exact ⟨⟨_, rfl, .same⟩, ⟨_, rfl, .same⟩, ⟨_, rfl, .same⟩, ⟨_, rfl, .same⟩, ⟨_, rfl, .ptr _ _ _ _ _ _ _ _ _ rfl rfl rfl rfl⟩, trivial⟩
      · refine ⟨.inl ⟨_, _, rfl, rfl, rfl, rfl, rfl, rfl, Nat.le_refl _, fun i' j' hi' hj' => ?_⟩, .inl ⟨_, _, rfl, rfl, rfl, OLe.rowL rfl (by show g + 17 = g + _; rw [hx]) rfl ?_ ?_⟩, trivial⟩
        · match i', j' with
          | 0, 0 => exact .row _ _ _ _ _ _ _ _ _ rfl (by rw [hx]) rfl (by rw [hx]; omega)
        · show _ ≤ (sendN ws i ++ L.take (logB (bitL (ws.getD i 0) (ordB i))).length).length
          rw [hcat]
          exact Nat.le_refl _
        · show IsL (fun k _ => .pv (.int .u8 ((sendN ws i ++ L.take (logB (bitL (ws.getD i 0) (ordB i))).length).getD k 0))) .u8 (sendN ws (i + 1))
          rw [hcat]
          exact IsL.seq
  · have hc : ¬ (i : Int) < 20 := of_decide_eq_false hc
    have hi20 : i = 20 := by omega
    conv => whnf
    repeat (refine ⟨⟨rfl, rfl, nle rfl, nle rfl⟩, ?_⟩; conv => whnf)
    have hsl := sendN_len ws i
    have key : sendN ws 20 = sendN ws i := by rw [hi20]
    rw [key]
    refine ⟨_, [(300, rowL 5 .u8 g (sendN ws i))], ⟨g, rfl, rfl⟩, SubS.mkN [] [(300, 22)] rfl rfl rfl ⟨⟨_, rfl, .tup 2 _ _ fun k hk => ?_⟩, trivial⟩ ⟨.inl ⟨_, _, rfl, rfl, rfl, OLe.rowL rfl rfl rfl (Nat.le_refl _) IsL.seq⟩, trivial⟩⟩
    match k with
    | 0 => exact .row _ _ _ _ _ _ _ _ _ rfl rfl rfl (show 17 * i = 340 by omega)
    | 1 => exact .same
end Go.Proofs.Ytncmpjpmcliomaa

namespace Go.Proofs.Ytncmpjpmcliomaa
open Go Go.AM
attribute [local irreducible] AWP CallK PureCall SubS HeapCall
def t19 : List Int := twos ++ [2]
def tBad : List Int := twos.set 17 32768
def b5 : List Int := bT.set 5 2
theorem kn1 : wordsS 1 t19 = ([], 4) := by decide +kernel
theorem kn2 : sendS 1 tBad = ([], 3) := by decide +kernel
theorem kn3 : sendS 32768 (twos.take 17) = ([], 9) := by decide +kernel
theorem kn4 : decS b5 = [] := by decide +kernel
theorem kn5 : decS [] = [] := by decide +kernel
theorem kn5' : decN b5 340 = (([], []), []) := by decide +kernel
theorem kn5l : b5.length = 340 := by decide +kernel
theorem knW : allW 1 twos = wT := by decide +kernel
theorem knO : okL (1, twos) := ⟨⟨by decide, by decide⟩, by decide, by decide +kernel⟩
theorem knB : bitsOf [(1, twos)] = bT := by
  show sendN (allW 1 twos) 20 ++ [] = bT
  rw [List.append_nil, knW]; rfl
theorem kn6 : decS (b5 ++ bT) = [(1, twos)] := by
  have h := decN_fold b5 340 (by rw [kn5l]; decide)
  rw [kn5', List.take_of_length_le (by rw [kn5l]; decide)] at h
  rw [decS_fold, List.foldl_append, ← h, ← knB, bits_fold [(1, twos)] [] fun x hx => by rw [List.mem_singleton.mp hx]; exact knO]
  rfl
theorem kn7 : wordS ((b5 ++ bT).take 16) = (0, false, false) := by decide +kernel
theorem kn8 : (wordsS 1 twos).2 = 0 := by decide +kernel
theorem kn9 : sendN (wordsS 1 twos).1 20 = bT := by decide +kernel
theorem t19_W : ∀ x ∈ t19, W x := by unfold W; decide +kernel
theorem tBad_W : ∀ x ∈ tBad, W x := by unfold W; decide +kernel
theorem t17_W : ∀ x ∈ twos.take 17, W x := by unfold W; decide +kernel
theorem b5_bd : ∀ x ∈ b5, 0 ≤ x ∧ x < 256 := by decide +kernel
theorem bb_bd : ∀ x ∈ b5 ++ bT, 0 ≤ x ∧ x < 256 := by decide +kernel
theorem b16_bd : ∀ x ∈ (b5 ++ bT).take 16, 0 ≤ x ∧ x < 256 := by decide +kernel
theorem len_t : twos.length = 18 := by decide +kernel
theorem len_5 : b5.length = 340 := by decide +kernel
theorem q12 : PureCall Try.prog 12 [listV 1 t19] (wordsV ([], 4)) := by
  have := f12 1 t19 ⟨by decide, by decide⟩ t19_W (by decide +kernel)
  rwa [kn1] at this
theorem q14a : PureCall Try.prog 14 [listV 1 tBad] (sendV ([], 3)) := by
  have := f14 1 tBad ⟨by decide, by decide⟩ tBad_W (by decide +kernel)
  rwa [kn2] at this
theorem q14b : PureCall Try.prog 14 [listV 32768 (twos.take 17)] (sendV ([], 9)) := by
  have := f14 32768 (twos.take 17) ⟨by decide, by decide⟩ t17_W (by decide +kernel)
  rwa [kn3] at this
theorem q14c : HeapCall Try.prog 14 [listV 1 twos] [] (fun r Hout => ∃ g, r = tupV [.row 300 g 1 0 340, i64 0] ∧ Hout = [(300, rowL 5 .u8 g bT)]) := by
  have := f14H 1 twos ⟨by decide, by decide⟩ twos_W (by decide +kernel) kn8
  rwa [kn9] at this
theorem q21a : PureCall Try.prog 21 [.pv (sb b5)] (.pv (lsP [])) := by
  have := f21 b5 (by decide +kernel) b5_bd
  rwa [kn4] at this
theorem q21b : PureCall Try.prog 21 [.pv (sb [])] (.pv (lsP [])) := by
  have := f21 [] (by decide) (fun x hx => by cases hx)
  rwa [kn5] at this
theorem q21c : PureCall Try.prog 21 [.pv (sb (b5 ++ bT))] (.pv (lsP [(1, twos)])) := by
  have := f21 (b5 ++ bT) (by decide +kernel) bb_bd
  rwa [kn6] at this
theorem q18 : PureCall Try.prog 18 [.pv (sb ((b5 ++ bT).take 16))] (wordV (0, false, false)) := by
  have := f18 ((b5 ++ bT).take 16) (by decide +kernel) b16_bd
  rwa [kn7] at this
theorem len_bT : ((bT.length : Int) != 340) = false := by decide +kernel
theorem bT340 : bT.length = 340 := by decide +kernel
theorem len_19 : t19.length = 19 := by decide +kernel
theorem len_bad : tBad.length = 18 := by decide +kernel
theorem len_17 : (twos.take 17).length = 17 := by decide +kernel
attribute [local irreducible] bT twos t19 tBad b5
theorem f9 : PureCall Try.prog 9 [] (bb true) := by
  have hB := bT340
  have h5 := len_5
  have ht := len_t
  refine PureCall.runC tab_ok mixed (by kernel_rfl) Try.func9 rfl rfl rfl 11 ?_
  conv => whnf
  refine CallK.drop [] f26 trivial ?_
  conv => whnf
  repeat (refine ⟨⟨rfl, rfl, nle rfl, nle rfl⟩, ?_⟩; conv => whnf)
  refine ⟨⟨rfl, rfl, rfl, rfl, rfl, rfl, rfl, show (0 + twos.length) * 2 ≤ 140737488355328 by omega⟩, ?_⟩
  conv => whnf
  refine ⟨⟨⟨rfl, rfl, rfl, nle rfl⟩, rfl, rfl, rfl, rfl, rfl, rfl, show (0 + twos.length + 1) * 2 ≤ 140737488355328 by omega⟩, ?_⟩
  conv => whnf
  repeat (refine ⟨⟨rfl, rfl, nle rfl, nle rfl⟩, ?_⟩; conv => whnf)
  refine CallK.drop [20] q12 ⟨.agg _ _ _ fun j hj => ?_, trivial⟩ ?_
  · match j with
    | 0 => exact .same
    | 1 =>
      refine .frz0 _ rfl rfl rfl rfl rfl (Nat.le_refl _) (show 0 + twos.length + 1 = t19.length by rw [len_19, ht]) ?_
      try dsimp only
      rw [show t19 = twos ++ [2] by unfold t19; rfl]
      exact IsL.cat' twos [2] rfl rfl (Nat.zero_add _) (IsL.cat' [] twos rfl rfl rfl IsL.nil IsL.seq) (IsL.one rfl)
  conv => whnf
  refine CallK.heap f26H [] [] rfl rfl trivial trivial 1000 rfl ?_
  rintro r Hout ⟨g1, rfl, rfl⟩
  conv => whnf
  repeat (refine ⟨⟨rfl, rfl, nle rfl, nle rfl⟩, ?_⟩; conv => whnf)
  refine ⟨⟨by decide, by decide, rfl⟩, ?_⟩
  conv => whnf
  refine ⟨⟨rfl, rfl, show 0 + Int.toNat 17 < twos.length by rw [ht]; decide, nle rfl⟩, ?_⟩
  conv => whnf
  repeat (refine ⟨⟨rfl, rfl, nle rfl, nle rfl⟩, ?_⟩; conv => whnf)
  refine CallK.drop [1300] q14a ⟨.agg _ _ _ fun j hj => ?_, trivial⟩ ?_
  · match j with
    | 0 => exact .same
    | 1 =>
      refine .frz0 _ rfl rfl rfl rfl rfl (show 18 ≤ twos.length by omega) (show 18 = tBad.length by rw [len_bad]) ?_
      try dsimp only
      rw [show tBad = twos.set 17 32768 by unfold tBad; rfl]
      exact IsL.put IsL.seq (by omega) rfl
  conv => whnf
  repeat (refine ⟨⟨rfl, rfl, nle rfl, nle rfl⟩, ?_⟩; conv => whnf)
  refine ⟨⟨by decide, show (17 : Int) ≤ twos.length by omega, rfl⟩, ?_⟩
  conv => whnf
  refine CallK.drop [] q14b ⟨.agg _ _ _ fun j hj => ?_, trivial⟩ ?_
  · match j with
    | 0 => exact .same
    | 1 =>
      refine .seqL rfl (by rw [len_17]; rfl) fun k hk => ?_
      rw [len_17] at hk
      show PV.int .u16 (twos.getD k 0) = .int .u16 ((twos.take 17).getD k 0)
      rw [List.getD_eq_getElem?_getD, List.getD_eq_getElem?_getD, List.getElem?_take_of_lt hk]
  conv => whnf
  repeat (refine ⟨⟨rfl, rfl, nle rfl, nle rfl⟩, ?_⟩; conv => whnf)
  refine CallK.heap q14c [] [] rfl rfl ⟨.agg _ _ _ fun j hj => ?_, trivial⟩ trivial 2000 rfl ?_
  · match j with
    | 0 => exact .same
    | 1 => exact .same
  rintro r Hout ⟨g2, rfl, rfl⟩
  conv => whnf
  refine ⟨fun h => absurd (show (false : Bool) = true from h) (by decide), fun _ => ?_⟩
  conv => whnf
  refine ⟨⟨by decide, by decide, rfl⟩, ?_⟩
  conv => whnf
  refine ⟨⟨rfl, rfl, show 0 + Int.toNat 5 < bT.length by rw [hB]; decide, nle rfl⟩, ?_⟩
  conv => whnf
  refine AWP.sub (st' := mkSt 112 [(1, .ptr 1 0 2 0 0), (4, i64 4), (7, i64 3), (9, i64 9), (10, .pv (sb b5))] [(1, ⟨26, 0, 2, 1, fun _ j => .pv (bif Nat.beq j 0 then .int .u16 1 else sw twos)⟩)]) ?_ (ex_cut tab_ok mixed 4 _ _ ?_)
  · refine SubS.mk [2300] rfl ?_ ⟨.inl ⟨_, _, rfl, rfl, rfl, rfl, rfl, rfl, Nat.le_refl _, fun i j hi hj => ?_⟩, trivial⟩
    · refine ⟨⟨_, rfl, .ptr _ _ _ _ _ _ _ _ _ rfl rfl rfl rfl⟩, ⟨_, rfl, .same⟩, ⟨_, rfl, .same⟩, ⟨_, rfl, .same⟩, ⟨_, rfl, ?_⟩, trivial⟩
      refine .frz0 _ rfl rfl rfl rfl rfl (show 340 ≤ bT.length by omega) (by omega) ?_
      try dsimp only
      rw [show b5 = bT.set 5 2 by unfold b5; rfl]
      exact IsL.put IsL.seq (by omega) rfl
    · match i, j with
      | 0, 0 => exact .same
      | 0, 1 => exact .same
  conv => whnf
  repeat (refine ⟨fun _ => ?_, fun h => Bool.noConfusion h⟩; conv => whnf)
  refine CallK.drop [] q21a ⟨.same, trivial⟩ ?_
  conv => whnf
  repeat (refine ⟨fun _ => ?_, fun h => Bool.noConfusion h⟩; conv => whnf)
  refine CallK.drop [] q21b ⟨.nilL, trivial⟩ ?_
  conv => whnf
  repeat (first
    | (refine ⟨fun _ => ?_, fun h => Bool.noConfusion h⟩; conv => whnf)
    | (refine ⟨⟨rfl, rfl, nle rfl, nle rfl⟩, ?_⟩; conv => whnf))
  refine CallK.drop [] w14 ⟨.agg _ _ _ fun j hj => ?_, trivial⟩ ?_
  · match j with
    | 0 => exact .same
    | 1 => exact .same
  conv => whnf
  refine ⟨⟨rfl, rfl, rfl, rfl, rfl, rfl, rfl, show (0 + b5.length) * 1 ≤ 140737488355328 by omega⟩, ?_⟩
  conv => whnf
  refine ⟨⟨rfl, rfl, rfl, rfl, rfl, rfl, rfl, show (0 + b5.length + bT.length) * 1 ≤ 140737488355328 by omega⟩, ?_⟩
  conv => whnf
  refine ⟨⟨by decide, show (16 : Int) ≤ ((0 + b5.length + bT.length : Nat) : Int) by omega, rfl⟩, ?_⟩
  conv => whnf
  refine CallK.flat [85] q18 ⟨VLe.frzS (L := b5 ++ bT) (o' := 0) _ rfl rfl rfl rfl rfl rfl rfl (show 0 + 16 ≤ 0 + b5.length + bT.length by omega) (by rw [List.length_append]; show 0 + 16 ≤ _; omega) ?_, trivial⟩ rfl ?_
  · try dsimp only
    exact IsL.cat' b5 bT rfl rfl (Nat.zero_add _) (IsL.cat' [] b5 rfl rfl rfl IsL.nil IsL.seq) IsL.seq
  conv => whnf
  refine awp_ex tab_ok mixed (st' := mkSt 112 [(1, .ptr 1 0 2 0 0), (12, bb true), (15, .pv (sb (b5 ++ bT))), (18, bb false)] [(1, ⟨26, 0, 2, 1, fun _ j => .pv (bif Nat.beq j 0 then .int .u16 1 else sw twos)⟩)]) ?_ ?_
  · refine SubS.mk [85] rfl ?_ ⟨.inl ⟨_, _, rfl, rfl, rfl, rfl, rfl, rfl, Nat.le_refl _, fun i j hi hj => .same⟩, trivial⟩
    refine ⟨⟨_, rfl, .ptr _ _ _ _ _ _ _ _ _ rfl rfl rfl rfl⟩, ⟨_, rfl, .same⟩, ⟨_, rfl, ?_⟩, ⟨_, rfl, .same⟩, trivial⟩
    refine .frz0 _ rfl rfl rfl rfl rfl (Nat.le_refl _) (by rw [List.length_append]; show 0 + b5.length + bT.length = _; omega) ?_
    try dsimp only
    exact IsL.cat' b5 bT rfl rfl (Nat.zero_add _) (IsL.cat' [] b5 rfl rfl rfl IsL.nil IsL.seq) IsL.seq
  conv => whnf
  refine ⟨_, [], ⟨_, awake, trivial, .inl rfl⟩, ?_⟩
  conv => whnf
  repeat (refine ⟨fun _ => ?_, fun h => Bool.noConfusion h⟩; conv => whnf)
  refine ⟨_, [], ⟨_, q21c, ⟨.same, trivial⟩, .inr rfl⟩, ?_⟩
  conv => whnf
  repeat (first
    | (refine ⟨fun _ => ?_, fun h => Bool.noConfusion h⟩; conv => whnf)
    | (refine ⟨⟨rfl, rfl, nle rfl, nle rfl⟩, ?_⟩; conv => whnf))
  refine ⟨_, [105], ⟨_, w20, ⟨.same, .frz _ _ _ _ _ _ _ _ rfl rfl rfl rfl (nle rfl) fun i j hi hj => ?_, trivial⟩, .inl rfl⟩, ?_⟩
  · match i, j with
    | 0, 0 => exact .same
    | 0, 1 => exact .same
  conv => whnf
  repeat (refine ⟨fun _ => ?_, fun h => Bool.noConfusion h⟩; conv => whnf)
  refine ⟨rfl, ?_⟩
  conv => whnf
  exact done_bool _ _ rfl rfl rfl
end Go.Proofs.Ytncmpjpmcliomaa

namespace Go.Proofs.Ytncmpjpmcliomaa
open Go Go.AM
/-- How many of k places from a on. -/
def cnt (f : Nat → Bool) (a : Nat) : Nat → Nat
  | 0 => 0
  | k + 1 => cnt f a k + (if f (a + k) then 1 else 0)
theorem cnt_mono {f : Nat → Bool} {a k m : Nat} (h : k ≤ m) : cnt f a k ≤ cnt f a m := by
  induction m with
  | zero => rw [Nat.le_zero.mp h]; exact Nat.le_refl _
  | succ m ih =>
    by_cases hk : k ≤ m
    · exact Nat.le_trans (ih hk) (Nat.le_add_right _ _)
    · rw [show k = m + 1 by omega]; exact Nat.le_refl _
theorem cnt_add {f : Nat → Bool} {a k : Nat} : ∀ m, cnt f a (k + m) = cnt f a k + cnt f (a + k) m
  | 0 => rfl
  | m + 1 => by
    show cnt f a (k + m) + (if f (a + (k + m)) then 1 else 0) = cnt f a k + (cnt f (a + k) m + (if f (a + k + m) then 1 else 0))
    rw [cnt_add m, show a + (k + m) = a + k + m by omega]; omega
theorem cnt_zero {f : Nat → Bool} {a k : Nat} (h : cnt f a k = 0) : ∀ t, t < k → f (a + t) = false := by
  induction k with
  | zero => intro t ht; omega
  | succ k ih =>
    intro t ht
    have h : cnt f a k + (if f (a + k) then 1 else 0) = 0 := h
    by_cases htk : t = k
    · subst htk
      cases hf : f (a + t) with
      | false => rfl
      | true => rw [hf, if_pos rfl] at h; omega
    · exact ih (by omega) t (by omega)
theorem cnt_pos {f : Nat → Bool} {a k t : Nat} (ht : t < k) (h : f (a + t) = true) : 1 ≤ cnt f a k := by
  have : cnt f a k ≠ 0 := fun h0 => by rw [cnt_zero h0 t ht] at h; cases h
  omega
theorem cnt_le {f : Nat → Bool} {a : Nat} : ∀ k, cnt f a k ≤ k
  | 0 => Nat.le_refl _
  | k + 1 => by
    have := cnt_le (f := f) (a := a) k
    show cnt f a k + (if f (a + k) then 1 else 0) ≤ k + 1
    split <;> omega
/-- The damaged bits. -/
def dmB (b : Nat → Int) (inv lo : Nat → Bool) (k : Nat) : Int := if lo k then 2 else if inv k then 1 - b k else b k
def chunk (g : Nat → Int) (a : Nat) : List Int := (List.range 17).map fun t => g (a + t)
theorem chunk_len (g : Nat → Int) (a : Nat) : (chunk g a).length = 17 := by simp [chunk]
theorem chunk_get (g : Nat → Int) (a : Nat) {t : Nat} (h : t < 17) : (chunk g a).getD t 0 = g (a + t) := by
  simp [chunk, List.getD_eq_getElem?_getD, h]
section
variable {b : Nat → Int} {inv lo : Nat → Bool}
theorem sum_range (g : Nat → Int) (a : Nat) : ∀ k, sumI ((List.range (k + 1)).map fun t => g (a + t)) = sumI ((List.range k).map fun t => g (a + t)) + g (a + k) := by
  intro k
  rw [List.range_succ, List.map_append, List.map_singleton, sumI_snoc]
theorem sum_par (hb : ∀ k, 0 ≤ b k ∧ b k < 2) (a : Nat) : ∀ k, (∀ t, t < k → lo (a + t) = false) → (sumI ((List.range k).map fun t => dmB b inv lo (a + t)) - sumI ((List.range k).map fun t => b (a + t)) - cnt inv a k) % 2 = 0 := by
  intro k
  induction k with
  | zero => intro _; rfl
  | succ k ih =>
    intro hlo
    have := ih fun t ht => hlo t (by omega)
    rw [sum_range, sum_range]
    have hbk := hb (a + k)
    show (_ - _ - ((cnt inv a k + (if inv (a + k) then 1 else 0) : Nat) : Int)) % 2 = 0
    have hd : dmB b inv lo (a + k) = if inv (a + k) then 1 - b (a + k) else b (a + k) := by unfold dmB; rw [hlo k (by omega)]; rfl
    rw [hd]
    cases inv (a + k) with
    | false => rw [if_neg (by decide), if_neg (by decide)]; omega
    | true => rw [if_pos rfl, if_pos rfl]; omega
/-- A good word: nothing lost, an even number of inversions. -/
theorem ok_word (hb : ∀ k, 0 ≤ b k ∧ b k < 2) {a : Nat} (ho : sumI (chunk b a) % 2 = 1) (h : (wordS (chunk (dmB b inv lo) a)).2.2 = true) : (∀ t, t < 17 → lo (a + t) = false) ∧ cnt inv a 17 % 2 = 0 ∧ goodB (chunk (dmB b inv lo) a) = true := by
  have hg : goodB (chunk (dmB b inv lo) a) = true := by
    cases hg : goodB (chunk (dmB b inv lo) a) with
    | true => rfl
    | false => rw [wordS_bad hg] at h; cases h
  obtain ⟨_, h2, h3⟩ := goodB_iff.mp hg
  have hlo : ∀ t, t < 17 → lo (a + t) = false := fun t ht => by
    cases hl : lo (a + t) with
    | false => rfl
    | true =>
      have := h2 (dmB b inv lo (a + t)) (List.mem_map.mpr ⟨t, List.mem_range.mpr ht, rfl⟩)
      unfold dmB at this
      rw [hl, if_pos rfl] at this
      omega
  have := sum_par (inv := inv) (lo := lo) hb a 17 hlo
  unfold chunk at h3 ho
  refine ⟨hlo, ?_, hg⟩
  omega
theorem first_flag {a : Nat} (hg : goodB (chunk (dmB b inv lo) a) = true) : (wordS (chunk (dmB b inv lo) a)).2.1 = (dmB b inv lo a == 1) := by
  unfold wordS
  rw [hg]
  show ((chunk (dmB b inv lo) a).getD 0 0 == 1) = _
  rw [chunk_get _ _ (by decide)]
  rfl
/-- How far the value is off. -/
theorem val_off (hb : ∀ k, 0 ≤ b k ∧ b k < 2) (a : Nat) : ∀ k, (∀ t, t < k → lo (a + t) = false) →
    (cnt inv a k = 0 → wval ((List.range k).map fun t => dmB b inv lo (a + t)) = wval ((List.range k).map fun t => b (a + t))) ∧
    (cnt inv a k = 1 → wval ((List.range k).map fun t => dmB b inv lo (a + t)) ≠ wval ((List.range k).map fun t => b (a + t)) ∧
      2 * (wval ((List.range k).map fun t => dmB b inv lo (a + t)) - wval ((List.range k).map fun t => b (a + t))).natAbs ≤ 2 ^ k) ∧
    (cnt inv a k = 2 → wval ((List.range k).map fun t => dmB b inv lo (a + t)) ≠ wval ((List.range k).map fun t => b (a + t)) ∧
      4 * (wval ((List.range k).map fun t => dmB b inv lo (a + t)) - wval ((List.range k).map fun t => b (a + t))).natAbs ≤ 3 * 2 ^ k) := by
  intro k
  induction k with
  | zero => intro _; exact ⟨fun _ => rfl, fun h => (by cases h), fun h => (by cases h)⟩
  | succ k ih =>
    intro hlo
    obtain ⟨h0, h1, h2⟩ := ih fun t ht => hlo t (by omega)
    have hbk := hb (a + k)
    have hd : dmB b inv lo (a + k) = if inv (a + k) then 1 - b (a + k) else b (a + k) := by unfold dmB; rw [hlo k (by omega)]; rfl
    have hc : cnt inv a (k + 1) = cnt inv a k + (if inv (a + k) then 1 else 0) := rfl
    rw [List.range_succ, List.map_append, List.map_append, List.map_singleton, List.map_singleton, wval_snoc, wval_snoc, hc, hd]
    have hp : (2 : Nat) ^ (k + 1) = 2 * 2 ^ k := by rw [Nat.pow_succ]; omega
    have hp1 : 1 ≤ (2 : Nat) ^ k := Nat.two_pow_pos k
    have hp2 : 1 ≤ cnt inv a k → 2 ≤ (2 : Nat) ^ k := fun h => by
      have hk : 1 ≤ k := Nat.le_trans h (cnt_le k)
      have := Nat.pow_le_pow_right (show 0 < 2 by decide) hk
      omega
    rw [hp]
    generalize wval ((List.range k).map fun t => dmB b inv lo (a + t)) = x at *
    generalize wval ((List.range k).map fun t => b (a + t)) = y at *
    generalize cnt inv a k = c at *
    generalize (2 : Nat) ^ k = p at *
    cases inv (a + k) with
    | false =>
      rw [if_neg (by decide), if_neg (by decide)]
      refine ⟨fun h => ?_, fun h => ?_, fun h => ?_⟩
      · rw [h0 (by omega)]
      · obtain ⟨q1, q2⟩ := h1 (by omega); exact ⟨by omega, by omega⟩
      · obtain ⟨q1, q2⟩ := h2 (by omega); exact ⟨by omega, by omega⟩
    | true =>
      rw [if_pos rfl, if_pos rfl]
      refine ⟨fun h => by omega, fun h => ?_, fun h => ?_⟩
      · have := h0 (by omega); exact ⟨by omega, by omega⟩
      · obtain ⟨q1, q2⟩ := h1 (by omega); exact ⟨by omega, by omega⟩
end
theorem ck_mod : ∀ (l : List Int), (∀ y ∈ l, 0 ≤ y ∧ y < 32768) → ck l % 32767 = sumI l % 32767 := by
  have : ∀ (l : List Int) (s u : Int), 0 ≤ s → s < 32768 → (s - u) % 32767 = 0 → (∀ y ∈ l, 0 ≤ y ∧ y < 32768) → (l.foldl addC s - l.foldl (· + ·) u) % 32767 = 0 := by
    intro l
    induction l with
    | nil => intro s u _ _ h _; exact h
    | cons y l ih =>
      intro s u h1 h2 h hl
      have hy := hl y (List.mem_cons_self ..)
      refine ih (addC s y) (u + y) ?_ addC_W.2 ?_ fun z hz => hl z (List.mem_cons_of_mem _ hz)
      · exact addC_W.1.1
      · unfold addC; split <;> omega
  intro l hl
  have h := this l 0 0 (by decide) (by decide) rfl hl
  unfold ck sumI
  omega
end Go.Proofs.Ytncmpjpmcliomaa

namespace Go.Proofs.Ytncmpjpmcliomaa
open Go Go.AM
/-- A word is received, good or not. -/
def wstG (s : List Int × List Lst) (p : Int × Bool × Bool) : List Int × List Lst :=
  ((stepW (nextW p s.1)).1.2, bif (stepW (nextW p s.1)).2.2 then s.2 ++ [(stepW (nextW p s.1)).2.1] else s.2)
theorem pre_foldG {bs : List Int} {w : List Int} {out : List Lst} (hl : bs.length = 17) (hb : ∀ x ∈ bs, 0 ≤ x ∧ x ≤ 2) : ∀ k, k ≤ 16 → (bs.take k).foldl decStep (([], w), out) = ((bs.take k, w), out) := by
  intro k
  induction k with
  | zero => intro _; rfl
  | succ k ih =>
    intro hk
    have hlt : k < bs.length := by omega
    have hx := hb (bs.getD k 0) (by rw [List.getD_eq_getElem?_getD, List.getElem?_eq_getElem hlt]; exact List.getElem_mem hlt)
    have hp : pushS (bs.take k) w (bs.getD k 0) = ((bs.take (k + 1), w), (0, []), false) := by
      have hc : cut2 (bs.getD k 0) = bs.getD k 0 := by unfold cut2; rw [if_neg (by omega)]
      unfold pushS
      rw [hc, ← take_succ_getD hlt, if_pos (by rw [List.length_take]; omega)]
    rw [take_succ_getD hlt, List.foldl_append, ih (by omega)]
    show decStep ((bs.take k, w), out) (bs.getD k 0) = _
    unfold decStep
    dsimp only
    rw [hp, ← take_succ_getD hlt]
    rfl
theorem word_foldG {bs : List Int} {w : List Int} {out : List Lst} (hl : bs.length = 17) (hb : ∀ x ∈ bs, 0 ≤ x ∧ x ≤ 2) : bs.foldl decStep (([], w), out) = (([], (wstG (w, out) (wordS bs)).1), (wstG (w, out) (wordS bs)).2) := by
  have h1 := pre_foldG (w := w) (out := out) hl hb 16 (Nat.le_refl _)
  have hx := hb (bs.getD 16 0) (by rw [List.getD_eq_getElem?_getD, List.getElem?_eq_getElem (by omega)]; exact List.getElem_mem (by omega))
  have e : bs = bs.take 16 ++ [bs.getD 16 0] := by
    rw [← take_succ_getD (by omega), List.take_of_length_le (by omega)]
  have hp : pushS (bs.take 16) w (bs.getD 16 0) = stepW (nextW (wordS bs) w) := by
    have hc : cut2 (bs.getD 16 0) = bs.getD 16 0 := by unfold cut2; rw [if_neg (by omega)]
    unfold pushS
    rw [hc, ← e, if_neg (by omega)]
  have : bs.foldl decStep (([], w), out) = decStep ((bs.take 16, w), out) (bs.getD 16 0) := by
    conv => lhs; rw [e]
    rw [List.foldl_append, h1]
    rfl
  rw [this]
  unfold decStep wstG
  dsimp only
  rw [hp]
  have hbits := stepW_bits (nextW (wordS bs) w)
  generalize stepW (nextW (wordS bs) w) = r at hbits
  obtain ⟨⟨r1, r2⟩, r3⟩ := r
  cases hbits
  rfl
section
variable {xs : List Lst} {inv lo : Nat → Bool}
def bOf (xs : List Lst) (k : Nat) : Int := (bitsOf xs).getD k 0
def wsOf (xs : List Lst) (q : Nat) : List Int := allW (xs.getD q (0, [])).1 (xs.getD q (0, [])).2
def vOf (xs : List Lst) (j : Nat) : Int := (wsOf xs (j / 20)).getD (j % 20) 0
def rOf (xs : List Lst) (inv lo : Nat → Bool) (j : Nat) : Int × Bool × Bool := wordS (chunk (dmB (bOf xs) inv lo) (17 * j))
def clean (inv lo : Nat → Bool) (j : Nat) : Prop := ∀ t, t < 17 → inv (17 * j + t) = false ∧ lo (17 * j + t) = false
theorem bitsOf_bd2 : ∀ {l : List Lst}, ∀ x ∈ bitsOf l, 0 ≤ x ∧ x < 2
  | [], x, hx => by cases hx
  | y :: l, x, hx => by
    rcases List.mem_append.mp hx with hx | hx
    · exact sendN_bd 20 x hx
    · exact bitsOf_bd2 x hx
theorem bOf_bd (k : Nat) : 0 ≤ bOf xs k ∧ bOf xs k < 2 := by
  unfold bOf
  rw [List.getD_eq_getElem?_getD]
  by_cases h : k < (bitsOf xs).length
  · rw [List.getElem?_eq_getElem h]; exact bitsOf_bd2 _ (List.getElem_mem h)
  · rw [List.getElem?_eq_none (by omega)]; exact ⟨Int.le_refl 0, show (0 : Int) < 2 by decide⟩
theorem xs_ok (hx : ∀ x ∈ xs, okL x) {q : Nat} (h : q < xs.length) : okL (xs.getD q (0, [])) := hx _ (by rw [List.getD_eq_getElem?_getD, List.getElem?_eq_getElem h]; exact List.getElem_mem h)
theorem ws_len (hx : ∀ x ∈ xs, okL x) {q : Nat} (h : q < xs.length) : (wsOf xs q).length = 20 := by
  have := (xs_ok hx h).2.1
  unfold wsOf allW
  rw [List.length_append, List.length_cons, this]
  rfl
theorem v_rng (hx : ∀ x ∈ xs, okL x) {j : Nat} (h : j < 20 * xs.length) : 0 ≤ vOf xs j ∧ vOf xs j < 32768 := getD_rng (okL_ws (xs_ok hx (by omega))) _
theorem orig (_hx : ∀ x ∈ xs, okL x) {j : Nat} (h : j < 20 * xs.length) : chunk (bOf xs) (17 * j) = bitL (vOf xs j) (ordB (j % 20)) := by
  have hq : j / 20 < xs.length := by omega
  have hlen := bitsOf_len xs
  have e1 : chunk (bOf xs) (17 * j) = ((bitsOf xs).drop (17 * j)).take 17 := by
    refine eq_of_getD (by rw [chunk_len, List.length_take, List.length_drop]; omega) fun t ht => ?_
    rw [chunk_len] at ht
    rw [chunk_get _ _ ht]
    unfold bOf
    rw [List.getD_eq_getElem?_getD, List.getD_eq_getElem?_getD, List.getElem?_take_of_lt ht, List.getElem?_drop]
  have e2 : 17 * j = 340 * (j / 20) + 17 * (j % 20) := by omega
  have hl := sendN_len (wsOf xs (j / 20)) 20
  have e3 : xs[j / 20] = xs.getD (j / 20) (0, []) := by rw [List.getD_eq_getElem?_getD, List.getElem?_eq_getElem hq]; rfl
  rw [e1, e2, ← List.drop_drop, bits_drop, List.drop_eq_getElem_cons hq, bitsOf, e3]
  show ((sendN (wsOf xs (j / 20)) 20 ++ _).drop _).take 17 = _
  rw [List.drop_append_of_le_length (by omega), List.take_append_of_le_length (by rw [List.length_drop]; omega), sendN_get _ 20 _ (by omega)]
  rfl
theorem orig_word (hx : ∀ x ∈ xs, okL x) {j : Nat} (h : j < 20 * xs.length) : wordS (chunk (bOf xs) (17 * j)) = (vOf xs j, j % 20 == 0, true) := by
  rw [orig hx h, wordS_bitL (v_rng hx h) (ord_ok _), ord_eq]
theorem orig_odd (hx : ∀ x ∈ xs, okL x) {j : Nat} (h : j < 20 * xs.length) : sumI (chunk (bOf xs) (17 * j)) % 2 = 1 := by rw [orig hx h]; exact bitL_odd _ _
theorem clean_word (hx : ∀ x ∈ xs, okL x) {j : Nat} (h : j < 20 * xs.length) (hc : clean inv lo j) : rOf xs inv lo j = (vOf xs j, j % 20 == 0, true) := by
  have : chunk (dmB (bOf xs) inv lo) (17 * j) = chunk (bOf xs) (17 * j) := by
    refine List.map_congr_left fun t ht => ?_
    have := hc t (List.mem_range.mp ht)
    unfold dmB
    rw [this.1, this.2]; rfl
  unfold rOf
  rw [this, orig_word hx h]
theorem ok_even (hx : ∀ x ∈ xs, okL x) {j : Nat} (h : j < 20 * xs.length) (ho : (rOf xs inv lo j).2.2 = true) : (∀ t, t < 17 → lo (17 * j + t) = false) ∧ cnt inv (17 * j) 17 % 2 = 0 ∧ goodB (chunk (dmB (bOf xs) inv lo) (17 * j)) = true :=
  ok_word bOf_bd (orig_odd hx h) ho
theorem first_b (hx : ∀ x ∈ xs, okL x) {j : Nat} (h : j < 20 * xs.length) : bOf xs (17 * j) = ordB (j % 20) := by
  have := congrArg (fun l => l.getD 0 0) (orig hx h)
  simp only [chunk_get _ _ (show 0 < 17 by decide)] at this
  exact this
theorem flag_is (hx : ∀ x ∈ xs, okL x) {j : Nat} (h : j < 20 * xs.length) (ho : (rOf xs inv lo j).2.2 = true) : (rOf xs inv lo j).2.1 = (if inv (17 * j) then !(j % 20 == 0) else (j % 20 == 0)) := by
  obtain ⟨hlo, _, hg⟩ := ok_even hx h ho
  have hfb := first_b hx h
  have h0 := hlo 0 (by decide)
  rw [Nat.add_zero] at h0
  unfold rOf
  rw [first_flag hg]
  unfold dmB
  rw [h0, hfb]
  have : (ordB (j % 20) == 1) = (j % 20 == 0) := ord_eq _
  cases hi : inv (17 * j) with
  | false => rw [if_neg (by decide), if_neg (by decide), if_neg (by decide)]; exact this
  | true =>
    rw [if_neg (by decide), if_pos rfl, if_pos rfl, ← this]
    have := ord_ok (j % 20)
    rcases (show ordB (j % 20) = 0 ∨ ordB (j % 20) = 1 by omega) with h | h <;> rw [h] <;> rfl
theorem cut_chunk (g : Nat → Int) (a : Nat) : ((chunk g a).take 16).drop 1 = (List.range 15).map fun t => g (a + 1 + t) := by
  refine eq_of_getD (by simp [chunk_len]) fun t ht => ?_
  have ht : t < 15 := by simp [chunk_len] at ht; omega
  rw [List.getD_eq_getElem?_getD, List.getElem?_drop, List.getElem?_take_of_lt (by omega), ← List.getD_eq_getElem?_getD, chunk_get _ _ (by omega)]
  simp [List.getD_eq_getElem?_getD, ht, Nat.add_assoc]
theorem value_off (hx : ∀ x ∈ xs, okL x) {j : Nat} (h : j < 20 * xs.length) (ho : (rOf xs inv lo j).2.2 = true) (hc : cnt inv (17 * j) 17 = 2) (hi : inv (17 * j) = false) :
    (rOf xs inv lo j).1 ≠ vOf xs j ∧ ((rOf xs inv lo j).1 - vOf xs j).natAbs ≤ 24576 := by
  obtain ⟨hlo, _, hg⟩ := ok_even hx h ho
  have e1 : (rOf xs inv lo j).1 = wval ((List.range 15).map fun t => dmB (bOf xs) inv lo (17 * j + 1 + t)) := by
    unfold rOf wordS
    rw [hg, ← cut_chunk]
    rfl
  have e2 : vOf xs j = wval ((List.range 15).map fun t => bOf xs (17 * j + 1 + t)) := by
    have hw := orig_word hx h
    have hgb : goodB (chunk (bOf xs) (17 * j)) = true := by
      cases hgb : goodB (chunk (bOf xs) (17 * j)) with
      | true => rfl
      | false => rw [wordS_bad hgb] at hw; exact absurd (congrArg (fun p => p.2.2) hw) (show ¬ false = true by decide)
    unfold wordS at hw
    rw [hgb] at hw
    have := congrArg Prod.fst hw
    rw [← cut_chunk]
    exact this.symm
  have hv := val_off (inv := inv) (lo := lo) (bOf_bd (xs := xs)) (17 * j + 1) 15 fun t ht => by rw [Nat.add_assoc]; exact hlo (1 + t) (by omega)
  rw [← e1, ← e2] at hv
  have hcc : cnt inv (17 * j) 17 = cnt inv (17 * j) 1 + (cnt inv (17 * j + 1) 15 + cnt inv (17 * j + 1 + 15) 1) := by
    rw [show 17 = 1 + (15 + 1) from rfl, cnt_add, cnt_add]
  have hc0 : cnt inv (17 * j) 1 = 0 := by show 0 + (if inv (17 * j + 0) then 1 else 0) = 0; rw [Nat.add_zero, hi]; rfl
  have hc1 := cnt_le (f := inv) (a := 17 * j + 1 + 15) 1
  rcases (show cnt inv (17 * j + 1) 15 = 1 ∨ cnt inv (17 * j + 1) 15 = 2 by omega) with hk | hk
  · obtain ⟨q1, q2⟩ := hv.2.1 hk
    exact ⟨q1, by omega⟩
  · obtain ⟨q1, q2⟩ := hv.2.2 hk
    exact ⟨q1, by omega⟩
end
end Go.Proofs.Ytncmpjpmcliomaa

namespace Go.Proofs.Ytncmpjpmcliomaa
open Go Go.AM
section
variable {xs : List Lst} {inv lo : Nat → Bool}
def wholeB (inv lo : Nat → Bool) (q m : Nat) : Bool := (List.range m).all fun t => !inv (340 * q + t) && !lo (340 * q + t)
def wantN (xs : List Lst) (inv lo : Nat → Bool) : Nat → List Lst
  | 0 => []
  | q + 1 => bif wholeB inv lo q 340 then wantN xs inv lo q ++ [xs.getD q (0, [])] else wantN xs inv lo q
theorem whole_iff {q : Nat} : wholeB inv lo q 340 = true ↔ ∀ r, r < 20 → clean inv lo (20 * q + r) := by
  unfold wholeB clean
  rw [List.all_eq_true]
  constructor
  · intro h r hr t ht
    have := h (17 * r + t) (List.mem_range.mpr (by omega))
    rw [show 340 * q + (17 * r + t) = 17 * (20 * q + r) + t by omega] at this
    simpa using this
  · intro h t ht
    have ht := List.mem_range.mp ht
    have := h (t / 17) (by omega) (t % 17) (by omega)
    rw [show 17 * (20 * q + t / 17) + t % 17 = 340 * q + t by omega] at this
    simp [this.1, this.2]
def stN (xs : List Lst) (inv lo : Nat → Bool) : Nat → List Int × List Lst
  | 0 => ([], [])
  | m + 1 => wstG (stN xs inv lo m) (rOf xs inv lo m)
def dmL (xs : List Lst) (inv lo : Nat → Bool) : List Int := (List.range (340 * xs.length)).map (dmB (bOf xs) inv lo)
theorem dmL_bd (k : Nat) : 0 ≤ dmB (bOf xs) inv lo k ∧ dmB (bOf xs) inv lo k ≤ 2 := by
  have := bOf_bd (xs := xs) k
  unfold dmB
  split
  · omega
  · split <;> omega
theorem dm_fold : ∀ m, m ≤ 20 * xs.length → ((dmL xs inv lo).take (17 * m)).foldl decStep d0 = (([], (stN xs inv lo m).1), (stN xs inv lo m).2) := by
  intro m
  induction m with
  | zero => intro _; rfl
  | succ m ih =>
    intro hm
    have hl : (dmL xs inv lo).length = 340 * xs.length := by simp [dmL]
    have e : (dmL xs inv lo).take (17 * (m + 1)) = (dmL xs inv lo).take (17 * m) ++ chunk (dmB (bOf xs) inv lo) (17 * m) := by
      rw [show 17 * (m + 1) = 17 * m + 17 by omega, List.take_add]
      congr 1
      refine eq_of_getD (by rw [chunk_len, List.length_take, List.length_drop]; omega) fun t ht => ?_
      have ht : t < 17 := by rw [List.length_take] at ht; omega
      rw [chunk_get _ _ ht, List.getD_eq_getElem?_getD, List.getElem?_take_of_lt ht, List.getElem?_drop]
      unfold dmL
      rw [List.getElem?_map, List.getElem?_range (by omega)]
      rfl
    rw [e, List.foldl_append, ih (by omega), word_foldG (chunk_len _ _) fun x hx => by
      obtain ⟨t, _, rfl⟩ := List.mem_map.mp hx
      exact dmL_bd _]
    rfl
theorem dec_dm : decS (dmL xs inv lo) = (stN xs inv lo (20 * xs.length)).2 := by
  have hl : (dmL xs inv lo).length = 340 * xs.length := by simp [dmL]
  have := dm_fold (xs := xs) (inv := inv) (lo := lo) (20 * xs.length) (Nat.le_refl _)
  rw [List.take_of_length_le (by omega)] at this
  rw [decS_fold, this]
/-- The words since the last first one. -/
structure Run (xs : List Lst) (inv lo : Nat → Bool) (s m : Nat) : Prop where
  lt : s < m
  ok : ∀ k, s ≤ k → k < m → (rOf xs inv lo k).2.2 = true
  fst : (rOf xs inv lo s).2.1 = true
  nfst : ∀ k, s < k → k < m → (rOf xs inv lo k).2.1 = false
def valsL (xs : List Lst) (inv lo : Nat → Bool) (s m : Nat) : List Int := (List.range m).map fun t => (rOf xs inv lo (s + t)).1
theorem valsL_len (s m : Nat) : (valsL xs inv lo s m).length = m := by simp [valsL]
theorem valsL_succ (s m : Nat) : valsL xs inv lo s (m + 1) = valsL xs inv lo s m ++ [(rOf xs inv lo (s + m)).1] := by
  unfold valsL; rw [List.range_succ, List.map_append, List.map_singleton]
theorem cnt_two {a i j n : Nat} (hij : i < j) (hj : j < n) (_h1 : 1 ≤ cnt inv (a + 17 * i) 17) (_h2 : 1 ≤ cnt inv (a + 17 * j) 17) : cnt inv (a + 17 * i) 17 + cnt inv (a + 17 * j) 17 ≤ cnt inv a (17 * n) := by
  have e1 : cnt inv a (17 * n) = cnt inv a (17 * i + (17 + (17 * (j - i - 1) + (17 + 17 * (n - j - 1))))) := by congr 1; omega
  rw [e1, cnt_add, cnt_add, cnt_add, cnt_add, show a + 17 * i + 17 + 17 * (j - i - 1) = a + 17 * j by omega]
  omega
/-- A whole run of twenty words is a list's. -/
theorem run_al (hx : ∀ x ∈ xs, okL x) (hf : ∀ j, 17 * j < 340 * xs.length → cnt inv (17 * j) 680 ≤ 3) {s : Nat} (hr : Run xs inv lo s (s + 20)) (hs : s + 20 ≤ 20 * xs.length) : s % 20 = 0 := by
  refine Decidable.byContradiction fun hne => ?_
  have hev : ∀ k, s ≤ k → k < s + 20 → (rOf xs inv lo k).2.1 ≠ (k % 20 == 0) → 2 ≤ cnt inv (17 * k) 17 := fun k h1 h2 hfl => by
    have ho := hr.ok k h1 h2
    have hk := flag_is hx (by omega) ho
    have hi : inv (17 * k) = true := by
      cases hi : inv (17 * k) with
      | true => rfl
      | false => rw [hi, if_neg (by decide)] at hk; exact absurd hk hfl
    have hp := cnt_pos (f := inv) (a := 17 * k) (k := 17) (t := 0) (by decide) hi
    have he := (ok_even hx (by omega) ho).2.1
    omega
  have h1 := hev s (Nat.le_refl _) (by omega) (by rw [hr.fst]; simp [hne])
  obtain ⟨k, hk1, hk2, hk3⟩ : ∃ k, s < k ∧ k < s + 20 ∧ k % 20 = 0 := ⟨s + (20 - s % 20), by omega, by omega, by omega⟩
  have h2 := hev k (by omega) hk2 (by rw [hr.nfst k hk1 hk2]; simp [hk3])
  have h3 := cnt_two (inv := inv) (a := 17 * s) (i := 0) (j := k - s) (n := 20) (by omega) (by omega) (by rw [Nat.mul_zero, Nat.add_zero]; omega) (by rw [show 17 * s + 17 * (k - s) = 17 * k by omega]; omega)
  rw [Nat.mul_zero, Nat.add_zero, show 17 * s + 17 * (k - s) = 17 * k by omega] at h3
  have h4 := cnt_mono (f := inv) (a := 17 * s) (show 17 * 20 ≤ 680 by decide)
  have h5 := hf s (by omega)
  omega
theorem sumI_mapset {n j : Nat} {g h : Nat → Int} (hj : j < n) (he : ∀ t, t < n → t ≠ j → g t = h t) : sumI ((List.range n).map g) - sumI ((List.range n).map h) = g j - h j := by
  induction n with
  | zero => omega
  | succ n ih =>
    rw [List.range_succ, List.map_append, List.map_append, List.map_singleton, List.map_singleton, sumI_snoc, sumI_snoc]
    by_cases hjn : j = n
    · subst hjn
      have : (List.range j).map g = (List.range j).map h := List.map_congr_left fun t ht => he t (by have := List.mem_range.mp ht; omega) (by have := List.mem_range.mp ht; omega)
      rw [this]; omega
    · have := ih (by omega) fun t ht => he t (by omega)
      have := he n (by omega) (Ne.symm hjn)
      omega
/-- A damaged list is not reported. -/
theorem run_bad (hx : ∀ x ∈ xs, okL x) (hf : ∀ j, 17 * j < 340 * xs.length → cnt inv (17 * j) 680 ≤ 3) {q : Nat} (hr : Run xs inv lo (20 * q) (20 * q + 20)) (hs : q < xs.length) (hw : ¬ ∀ r, r < 20 → clean inv lo (20 * q + r)) :
    ck (valsL xs inv lo (20 * q) 19) ≠ (rOf xs inv lo (20 * q + 19)).1 := by
  have hlt : ∀ r, r < 20 → 20 * q + r < 20 * xs.length := fun r h => by omega
  have hok : ∀ r, r < 20 → (rOf xs inv lo (20 * q + r)).2.2 = true := fun r h => hr.ok _ (by omega) (by omega)
  have hfl : ∀ r, r < 20 → (rOf xs inv lo (20 * q + r)).2.1 = ((20 * q + r) % 20 == 0) := fun r h => by
    by_cases h0 : r = 0
    · subst h0; rw [Nat.add_zero, hr.fst]; simp
    · rw [hr.nfst _ (by omega) (by omega)]
      simp
      omega
  have hin : ∀ r, r < 20 → inv (17 * (20 * q + r)) = false := fun r h => by
    have := flag_is hx (hlt r h) (hok r h)
    rw [hfl r h] at this
    cases hi : inv (17 * (20 * q + r)) with
    | false => rfl
    | true =>
      rw [hi, if_pos rfl] at this
      cases hb : ((20 * q + r) % 20 == 0) <;> rw [hb] at this <;> cases this
  have hcl : ∀ r, r < 20 → cnt inv (17 * (20 * q + r)) 17 = 0 → clean inv lo (20 * q + r) := fun r h h0 t ht => ⟨cnt_zero h0 t ht, (ok_even hx (hlt r h) (hok r h)).1 t ht⟩
  obtain ⟨j, hj, hjc⟩ : ∃ j, j < 20 ∧ ¬ clean inv lo (20 * q + j) := by
    refine Classical.byContradiction fun hno => hw fun r hr => Classical.byContradiction fun hc => hno ⟨r, hr, hc⟩
  have htot : cnt inv (17 * (20 * q)) (17 * 20) ≤ 3 := Nat.le_trans (cnt_mono (show 17 * 20 ≤ 680 by decide)) (hf (20 * q) (by omega))
  have hj2 : 2 ≤ cnt inv (17 * (20 * q + j)) 17 := by
    have h1 : cnt inv (17 * (20 * q + j)) 17 ≠ 0 := fun h0 => hjc (hcl j hj h0)
    have := (ok_even hx (hlt j hj) (hok j hj)).2.1
    omega
  have he : ∀ r, 17 * (20 * q) + 17 * r = 17 * (20 * q + r) := fun r => by omega
  have hoth : ∀ r, r < 20 → r ≠ j → clean inv lo (20 * q + r) := fun r h hne => hcl r h (by
    refine Decidable.byContradiction fun h0 => ?_
    have := (ok_even hx (hlt r h) (hok r h)).2.1
    rcases Nat.lt_or_gt_of_ne hne with hl | hl
    · have := cnt_two (inv := inv) (a := 17 * (20 * q)) (i := r) (j := j) (n := 20) hl hj (by rw [he]; omega) (by rw [he]; omega)
      rw [he, he] at this; omega
    · have := cnt_two (inv := inv) (a := 17 * (20 * q)) (i := j) (j := r) (n := 20) hl h (by rw [he]; omega) (by rw [he]; omega)
      rw [he, he] at this; omega)
  have hjle : cnt inv (17 * (20 * q + j)) 17 ≤ 3 := by
    have e : 17 * 20 = 17 * j + (17 + 17 * (19 - j)) := by omega
    rw [e, cnt_add, cnt_add, he] at htot
    omega
  have hj22 : cnt inv (17 * (20 * q + j)) 17 = 2 := by
    have := (ok_even hx (hlt j hj) (hok j hj)).2.1
    omega
  obtain ⟨hv1, hv2⟩ := value_off hx (hlt j hj) (hok j hj) hj22 (hin j hj)
  have hval : ∀ r, r < 20 → r ≠ j → (rOf xs inv lo (20 * q + r)).1 = vOf xs (20 * q + r) := fun r h hne => by rw [clean_word hx (hlt r h) (hoth r h hne)]
  -- the words that were sent
  have hxq := xs_ok hx hs
  have hvw : ∀ r, r < 20 → vOf xs (20 * q + r) = (wsOf xs q).getD r 0 := fun r h => by
    unfold vOf
    rw [show (20 * q + r) / 20 = q by omega, show (20 * q + r) % 20 = r by omega]
  have hlen : ((xs.getD q (0, [])).1 :: (xs.getD q (0, [])).2).length = 19 := by rw [List.length_cons, hxq.2.1]
  have hsent : (List.range 19).map (fun r => vOf xs (20 * q + r)) = (xs.getD q (0, [])).1 :: (xs.getD q (0, [])).2 := by
    refine eq_of_getD (by rw [List.length_map, List.length_range, hlen]) fun r h => ?_
    have h : r < 19 := by simpa using h
    rw [List.getD_eq_getElem?_getD, List.getElem?_map, List.getElem?_range h]
    show vOf xs (20 * q + r) = _
    rw [hvw r (by omega)]
    unfold wsOf allW
    rw [List.getD_eq_getElem?_getD, List.getElem?_append_left (by omega), ← List.getD_eq_getElem?_getD]
  have h19 : vOf xs (20 * q + 19) = ck ((xs.getD q (0, [])).1 :: (xs.getD q (0, [])).2) := by
    rw [hvw 19 (by decide)]
    unfold wsOf allW
    rw [List.getD_eq_getElem?_getD, List.getElem?_append_right (by omega), hlen]
    rfl
  have hckr := ck_lt (xs.getD q (0, [])).1 (xs.getD q (0, [])).2
  have hvr : ∀ r, r < 20 → 0 ≤ vOf xs (20 * q + r) ∧ vOf xs (20 * q + r) < 32768 := fun r h => v_rng hx (hlt r h)
  have hrr : ∀ r, r < 20 → 0 ≤ (rOf xs inv lo (20 * q + r)).1 ∧ (rOf xs inv lo (20 * q + r)).1 < 32768 := fun r h => by
    have hb : ∀ y ∈ chunk (dmB (bOf xs) inv lo) (17 * (20 * q + r)), 0 ≤ y ∧ y < 256 := fun y hy => by
      obtain ⟨t, _, rfl⟩ := List.mem_map.mp hy
      have := dmL_bd (xs := xs) (inv := inv) (lo := lo) (17 * (20 * q + r) + t)
      omega
    have h1 := wordS_lt _ hb
    have h2 := wordS_W _ hb
    unfold rOf
    exact ⟨h2.1, by omega⟩
  by_cases hj19 : j = 19
  · subst hj19
    have e : valsL xs inv lo (20 * q) 19 = (xs.getD q (0, [])).1 :: (xs.getD q (0, [])).2 := by
      rw [← hsent]
      exact List.map_congr_left fun r hr => by have := List.mem_range.mp hr; exact hval r (by omega) (by omega)
    rw [e, ← h19]
    exact Ne.symm hv1
  · rw [hval 19 (by decide) (Ne.symm hj19), h19]
    intro heq
    have hs1 := ck_mod (valsL xs inv lo (20 * q) 19) fun y hy => by
      obtain ⟨r, hr, rfl⟩ := List.mem_map.mp hy
      exact hrr r (by have := List.mem_range.mp hr; omega)
    have hs2 := ck_mod ((xs.getD q (0, [])).1 :: (xs.getD q (0, [])).2) fun y hy => by
      rcases List.mem_cons.mp hy with rfl | hy
      · exact hxq.1
      · exact hxq.2.2 y hy
    rw [heq] at hs1
    rw [← hsent] at hs2
    have hd := sumI_mapset (n := 19) (j := j) (g := fun r => (rOf xs inv lo (20 * q + r)).1) (h := fun r => vOf xs (20 * q + r)) (by omega) fun t ht hne => hval t (by omega) hne
    have e : sumI (valsL xs inv lo (20 * q) 19) = sumI ((List.range 19).map fun r => (rOf xs inv lo (20 * q + r)).1) := rfl
    rw [e] at hs1
    rw [hsent] at hs2 hd
    omega
end
end Go.Proofs.Ytncmpjpmcliomaa

namespace Go.Proofs.Ytncmpjpmcliomaa
open Go Go.AM
section
variable {xs : List Lst} {inv lo : Nat → Bool}
/-- What holds after m words. -/
structure Inv (xs : List Lst) (inv lo : Nat → Bool) (m : Nat) : Prop where
  out : (stN xs inv lo m).2 = wantN xs inv lo (m / 20)
  run : (stN xs inv lo m).1 = [] ∨ ∃ s, Run xs inv lo s m ∧ m - s < 20 ∧ (stN xs inv lo m).1 = valsL xs inv lo s (m - s)
  cl : 0 < m % 20 → (∀ k, m / 20 * 20 ≤ k → k < m → clean inv lo k) → (stN xs inv lo m).1 = (wsOf xs (m / 20)).take (m % 20)
theorem step_short {s : List Int × List Lst} {p : Int × Bool × Bool} (h : (nextW p s.1).length < 20) : wstG s p = (nextW p s.1, s.2) := by
  unfold wstG stepW
  rw [if_pos h]
  rfl
theorem want_not {q : Nat} (h : wholeB inv lo q 340 = false) : wantN xs inv lo (q + 1) = wantN xs inv lo q := by
  show (bif wholeB inv lo q 340 then _ else _) = _
  rw [h]; rfl
theorem not_whole {m : Nat} (h : ¬ clean inv lo m) : wholeB inv lo (m / 20) 340 = false := by
  rw [← Bool.not_eq_true, whole_iff]
  intro hw
  have := hw (m % 20) (Nat.mod_lt _ (by decide))
  rw [show 20 * (m / 20) + m % 20 = m by omega] at this
  exact h this
/-- No report, and the list that ends here, if one does, is damaged. -/
theorem inv_quiet {m : Nat} (hm : Inv xs inv lo m) (hs : (nextW (rOf xs inv lo m) (stN xs inv lo m).1).length < 20)
    (hw : m % 20 = 19 → wholeB inv lo (m / 20) 340 = false)
    (hrun : nextW (rOf xs inv lo m) (stN xs inv lo m).1 = [] ∨ ∃ s, Run xs inv lo s (m + 1) ∧ m + 1 - s < 20 ∧ nextW (rOf xs inv lo m) (stN xs inv lo m).1 = valsL xs inv lo s (m + 1 - s))
    (hcl : m % 20 < 19 → (∀ k, m / 20 * 20 ≤ k → k < m + 1 → clean inv lo k) → nextW (rOf xs inv lo m) (stN xs inv lo m).1 = (wsOf xs (m / 20)).take (m % 20 + 1)) : Inv xs inv lo (m + 1) := by
  have e : stN xs inv lo (m + 1) = (nextW (rOf xs inv lo m) (stN xs inv lo m).1, (stN xs inv lo m).2) := step_short hs
  refine ⟨?_, ?_, ?_⟩
  · rw [e]
    show (stN xs inv lo m).2 = _
    rw [hm.out]
    by_cases h19 : m % 20 = 19
    · rw [show (m + 1) / 20 = m / 20 + 1 by omega, want_not (hw h19)]
    · rw [show (m + 1) / 20 = m / 20 by omega]
  · rw [e]; exact hrun
  · intro h1 h2
    rw [e]
    have h3 : m % 20 < 19 := by omega
    rw [show (m + 1) / 20 = m / 20 by omega] at h2 ⊢
    rw [show (m + 1) % 20 = m % 20 + 1 by omega]
    exact hcl h3 h2
theorem inv_step (hx : ∀ x ∈ xs, okL x) (hf : ∀ j, 17 * j < 340 * xs.length → cnt inv (17 * j) 680 ≤ 3) {m : Nat} (hm : Inv xs inv lo m) (hlt : m < 20 * xs.length) : Inv xs inv lo (m + 1) := by
  have hq : m / 20 < xs.length := by omega
  have hwl := ws_len hx hq
  have hcw : clean inv lo m → rOf xs inv lo m = (vOf xs m, m % 20 == 0, true) := clean_word hx hlt
  have hall : wholeB inv lo (m / 20) 340 = true → ∀ k, m / 20 * 20 ≤ k → k < m / 20 * 20 + 20 → clean inv lo k := fun h k h1 h2 => by
    have := whole_iff.mp h (k - m / 20 * 20) (by omega)
    rwa [show 20 * (m / 20) + (k - m / 20 * 20) = k by omega] at this
  have hvw : vOf xs m = (wsOf xs (m / 20)).getD (m % 20) 0 := rfl
  obtain ⟨⟨v, f, ok⟩, hR⟩ : ∃ p, p = rOf xs inv lo m := ⟨_, rfl⟩
  cases hok : ok with
  | false =>
    subst hok
    have hnc : ¬ clean inv lo m := fun hc => by
      have := hcw hc
      rw [← hR] at this
      exact absurd (congrArg (fun p => p.2.2) this) (show ¬ false = true by decide)
    have hnx : nextW (rOf xs inv lo m) (stN xs inv lo m).1 = [] := by rw [← hR]; rfl
    exact inv_quiet hm (by rw [hnx]; exact Nat.zero_lt_succ _) (fun _ => not_whole hnc) (.inl hnx) fun _ h => absurd (h m (by omega) (by omega)) hnc
  | true =>
    subst hok
    cases hfv : f with
    | true =>
      subst hfv
      have hnx : nextW (rOf xs inv lo m) (stN xs inv lo m).1 = [v] := by rw [← hR]; rfl
      have hv : v = (rOf xs inv lo m).1 := by rw [← hR]
      refine inv_quiet hm (by rw [hnx]; exact show 1 < 20 by decide) (fun h19 => not_whole fun hc => ?_) (.inr ⟨m, ⟨by omega, fun k h1 h2 => ?_, by rw [← hR], fun k h1 h2 => by omega⟩, by omega, ?_⟩) fun h19 h => ?_
      · have := hcw hc
        rw [← hR] at this
        have := congrArg (fun p => p.2.1) this
        have : true = (m % 20 == 0) := this
        rw [h19] at this; cases this
      · rw [show k = m by omega, ← hR]
      · rw [hnx, show m + 1 - m = 1 by omega, hv]; rfl
      · have hc := hcw (h m (by omega) (by omega))
        rw [← hR] at hc
        have h0 : true = (m % 20 == 0) := congrArg (fun p => p.2.1) hc
        have h0 : m % 20 = 0 := by simpa using h0.symm
        have h1 : v = vOf xs m := congrArg (fun p => p.1) hc
        rw [hnx, h1, hvw, h0, take_succ_getD (by omega)]
        rfl
    | false =>
      subst hfv
      have hcf : clean inv lo m → m % 20 ≠ 0 ∧ v = vOf xs m := fun hc => by
        have := hcw hc
        rw [← hR] at this
        have h0 : false = (m % 20 == 0) := congrArg (fun p => p.2.1) this
        exact ⟨fun h => (by rw [h] at h0; cases h0), congrArg (fun p => p.1) this⟩
      rcases hm.run with hw0 | ⟨s, hr, hs20, hws⟩
      · have hnx : nextW (rOf xs inv lo m) (stN xs inv lo m).1 = [] := by rw [← hR, hw0]; rfl
        have hno : ∀ h : (∀ k, m / 20 * 20 ≤ k → k < m + 1 → clean inv lo k), False := fun h => by
          obtain ⟨h0, _⟩ := hcf (h m (by omega) (by omega))
          have := hm.cl (by omega) fun k h1 h2 => h k h1 (by omega)
          rw [hw0] at this
          have := congrArg List.length this
          rw [List.length_take, hwl, List.length_nil] at this
          omega
        refine inv_quiet hm (by rw [hnx]; exact Nat.zero_lt_succ _) (fun h19 => ?_) (.inl hnx) fun _ h => (hno h).elim
        cases hwh : wholeB inv lo (m / 20) 340 with
        | false => rfl
        | true => exact (hno fun k h1 h2 => hall hwh k h1 (by omega)).elim
      · have hlt' := hr.lt
        have hvl := valsL_len (xs := xs) (inv := inv) (lo := lo) s (m - s)
        have hnx : nextW (rOf xs inv lo m) (stN xs inv lo m).1 = valsL xs inv lo s (m + 1 - s) := by
          rw [← hR, hws, show m + 1 - s = m - s + 1 by omega, valsL_succ, show s + (m - s) = m by omega, ← hR]
          cases hq : valsL xs inv lo s (m - s) with
          | nil => rw [hq] at hvl; simp at hvl; omega
          | cons y q => rfl
        have hr' : Run xs inv lo s (m + 1) := by
          refine ⟨by omega, fun k h1 h2 => ?_, hr.fst, fun k h1 h2 => ?_⟩
          · by_cases hk : k = m
            · rw [hk, ← hR]
            · exact hr.ok k h1 (by omega)
          · by_cases hk : k = m
            · rw [hk, ← hR]
            · exact hr.nfst k h1 (by omega)
        have hcl' : (∀ k, m / 20 * 20 ≤ k → k < m + 1 → clean inv lo k) → valsL xs inv lo s (m - s) = (wsOf xs (m / 20)).take (m % 20) ∧ v = (wsOf xs (m / 20)).getD (m % 20) 0 ∧ m - s = m % 20 := fun h => by
          obtain ⟨h0, hv⟩ := hcf (h m (by omega) (by omega))
          have h1 := hm.cl (by omega) fun k h1 h2 => h k h1 (by omega)
          rw [hws] at h1
          have h2 := congrArg List.length h1
          rw [hvl, List.length_take, hwl] at h2
          exact ⟨h1, by rw [hv, hvw], by omega⟩
        by_cases hshort : m + 1 - s < 20
        · refine inv_quiet hm (by rw [hnx, valsL_len]; exact hshort) (fun h19 => ?_) (.inr ⟨s, hr', hshort, hnx⟩) fun h19 h => ?_
          · cases hwh : wholeB inv lo (m / 20) 340 with
            | false => rfl
            | true =>
              have := (hcl' fun k h1 h2 => hall hwh k h1 (by omega)).2.2
              omega
          · obtain ⟨h1, h2, h3⟩ := hcl' h
            rw [hnx, show m + 1 - s = m - s + 1 by omega, valsL_succ, h1, show s + (m - s) = m by omega, take_succ_getD (by omega), ← h2, ← hR]
        · have hs : s + 20 = m + 1 := by omega
          have hal := run_al hx hf (s := s) (by rw [hs]; exact hr') (by omega)
          have hsq : s = 20 * (m / 20) := by omega
          have hm19 : m % 20 = 19 := by omega
          have hlen19 : (valsL xs inv lo s 19).length = 19 := valsL_len _ _
          have hms : m - s = 19 := by omega
          have hstep := stepW_20 (v := v) hlen19
          have hv : v = (rOf xs inv lo m).1 := by rw [← hR]
          have hn20 : nextW (rOf xs inv lo m) (stN xs inv lo m).1 = valsL xs inv lo s 19 ++ [v] := by
            rw [hnx, show m + 1 - s = 19 + 1 by omega, valsL_succ, show s + 19 = m by omega, hv]
          have e : stN xs inv lo (m + 1) = ((stepW (valsL xs inv lo s 19 ++ [v])).1.2, bif (stepW (valsL xs inv lo s 19 ++ [v])).2.2 then (stN xs inv lo m).2 ++ [(stepW (valsL xs inv lo s 19 ++ [v])).2.1] else (stN xs inv lo m).2) := by
            show wstG _ _ = _
            unfold wstG
            rw [hn20]
          rw [hstep] at e
          have hm1 : (m + 1) % 20 = 0 := by omega
          cases hwh : wholeB inv lo (m / 20) 340 with
          | true =>
            obtain ⟨h1, h2, h3⟩ := hcl' fun k h1 h2 => hall hwh k h1 (by omega)
            rw [hms, hm19] at h1
            rw [hm19] at h2
            have hxq := xs_ok hx hq
            have hlen : ((xs.getD (m / 20) (0, [])).1 :: (xs.getD (m / 20) (0, [])).2).length = 19 := by rw [List.length_cons, hxq.2.1]
            have e1 : (wsOf xs (m / 20)).take 19 = (xs.getD (m / 20) (0, [])).1 :: (xs.getD (m / 20) (0, [])).2 := by unfold wsOf allW; rw [← hlen, List.take_left]
            have e2 : (wsOf xs (m / 20)).getD 19 0 = ck ((xs.getD (m / 20) (0, [])).1 :: (xs.getD (m / 20) (0, [])).2) := by
              unfold wsOf allW; rw [List.getD_eq_getElem?_getD, List.getElem?_append_right (by omega), hlen]; rfl
            rw [h1, e1, h2, e2, if_neg (by simp)] at e
            refine ⟨?_, ?_, fun h => by omega⟩
            · rw [e, show (m + 1) / 20 = m / 20 + 1 by omega]
              show (stN xs inv lo m).2 ++ [xs.getD (m / 20) (0, [])] = bif wholeB inv lo (m / 20) 340 then wantN xs inv lo (m / 20) ++ [xs.getD (m / 20) (0, [])] else _
              rw [hwh, hm.out]; rfl
            · rw [e]; exact .inl rfl
          | false =>
            have hne := run_bad hx hf (q := m / 20) (by rw [← hsq, hs]; exact hr') hq fun h => by
              rw [whole_iff.mpr h] at hwh; cases hwh
            rw [← hsq, show s + 19 = m by omega, ← hv] at hne
            rw [if_pos hne] at e
            refine ⟨?_, ?_, fun h => by omega⟩
            · rw [e, show (m + 1) / 20 = m / 20 + 1 by omega, want_not hwh]
              exact hm.out
            · rw [e]; exact .inl rfl
theorem inv_all (hx : ∀ x ∈ xs, okL x) (hf : ∀ j, 17 * j < 340 * xs.length → cnt inv (17 * j) 680 ≤ 3) : ∀ m, m ≤ 20 * xs.length → Inv xs inv lo m := by
  intro m
  induction m with
  | zero => intro _; exact ⟨rfl, .inl rfl, fun h => absurd h (by decide)⟩
  | succ m ih => intro hm; exact inv_step hx hf (ih (by omega)) (by omega)
/-- Exactly the lists of which no bit is lost or inverted. -/
theorem dec_damaged (hx : ∀ x ∈ xs, okL x) (hf : ∀ j, 17 * j < 340 * xs.length → cnt inv (17 * j) 680 ≤ 3) : decS (dmL xs inv lo) = wantN xs inv lo xs.length := by
  rw [dec_dm, (inv_all hx hf _ (Nat.le_refl _)).out, show 20 * xs.length / 20 = xs.length by omega]
end
end Go.Proofs.Ytncmpjpmcliomaa

namespace Go.Proofs.Ytncmpjpmcliomaa
open Go Go.AM
attribute [local irreducible] AWP CallK PureCall SubS HeapCall
def bq (l : List Bool) : PV := .seq 4 1 l.length fun i _ => .bool (l.getD i false)
def lf (l : List Bool) (k : Nat) : Bool := l.getD k false
def fewP (l : List Bool) : Prop := ∀ j, 17 * j < l.length → cnt (lf l) (17 * j) 680 ≤ 3
noncomputable def fewB (l : List Bool) : Bool := @decide (fewP l) (Classical.propDecidable _)
theorem few_iff {l : List Bool} : fewB l = true ↔ fewP l := by unfold fewB; exact @decide_eq_true_iff _ (Classical.propDecidable _)
theorem cnt_ext {f : Nat → Bool} {a k : Nat} (h : ∀ t, k ≤ t → f (a + t) = false) : ∀ m, k ≤ m → cnt f a m = cnt f a k := by
  intro m
  induction m with
  | zero => intro hm; rw [Nat.le_zero.mp hm]
  | succ m ih =>
    intro hm
    by_cases hk : k ≤ m
    · show cnt f a m + (if f (a + m) then 1 else 0) = _
      rw [ih hk, h m hk]; rfl
    · rw [show k = m + 1 by omega]
theorem f24 (l : List Bool) (hl : l.length < 2 ^ 40) : PureCall Try.prog 24 [.pv (bq l)] (bb (fewB l)) := by
  refine PureCall.run tab_ok mixed (by kernel_rfl) Try.func24 rfl rfl rfl ?_
  conv => whnf
  refine ex_loop tab_ok mixed (fun j => 17 * j < l.length + 17 ∧ ∀ i, i < j → cnt (lf l) (17 * i) 680 ≤ 3) (fun j : Nat => mkSt 33 [(0, .pv (bq l)), (3, i64 (17 * j : Nat))] []) (fun j => l.length + 17 - 17 * j) 0 ⟨by omega, fun i hi => by omega⟩ (SubS.mk [] rfl ?_ trivial) fun j hj => ?_
  · exact ⟨⟨_, rfl, .same⟩, ⟨_, rfl, .same⟩, trivial⟩
  obtain ⟨hj, hq⟩ := hj
  conv => whnf
  refine ⟨fun hc => ?_, fun hc => ?_⟩
  · have hc : ((17 * j : Nat) : Int) < l.length := of_decide_eq_true hc
    obtain ⟨a, ha⟩ : ∃ a, a = 17 * j := ⟨_, rfl⟩
    rw [← ha] at hc hj
    rw [← ha]
    have hal : a < l.length := by omega
    conv => whnf
    refine ex_loop tab_ok mixed (fun k => k ≤ 680 ∧ a + k ≤ l.length) (fun k : Nat => mkSt 33 [(0, .pv (bq l)), (3, i64 (a : Nat)), (4, i64 (cnt (lf l) a k : Nat)), (5, i64 (a + k : Nat))] []) (fun k => 680 - k) 0 ⟨Nat.zero_le _, by omega⟩ (SubS.mk [] rfl ?_ trivial) fun k hk => ?_
    · exact ⟨⟨_, rfl, .same⟩, ⟨_, rfl, .same⟩, ⟨_, rfl, .same⟩, ⟨_, rfl, .same⟩, trivial⟩
    obtain ⟨hk1, hk2⟩ := hk
    conv => whnf
    refine ⟨⟨by unfold inI64; omega⟩, ?_⟩
    conv => whnf
    refine ⟨fun hd => ?_, fun hd => ?_⟩
    · have hd : decide (((a + k : Nat) : Int) < (a : Int) + 680) = true := hd
      have hd := of_decide_eq_true hd
      conv => whnf
      repeat (refine ⟨fun _ => ?_, fun h => Bool.noConfusion h⟩; conv => whnf)
      refine ⟨fun he => ?_, fun he => ?_⟩
      · have he : ((a + k : Nat) : Int) < l.length := of_decide_eq_true he
        conv => whnf
        refine ⟨⟨by omega, by omega, rfl⟩, ?_⟩
        conv => whnf
        refine ⟨⟨Nat.le_refl _⟩, ?_⟩
        conv => whnf
        have hs : cnt (lf l) a (k + 1) = cnt (lf l) a k + (if lf l (a + k) then 1 else 0) := rfl
        have hcl := cnt_le (f := lf l) (a := a) k
        refine ⟨fun hb => ?_, fun hb => ?_⟩
        · have hb : lf l (a + k) = true := hb
          rw [hb, if_pos rfl] at hs
          conv => whnf
          refine ⟨⟨by unfold inI64; omega⟩, ?_⟩
          conv => whnf
          refine ⟨⟨by unfold inI64; omega⟩, ?_⟩
          conv => whnf
          refine ⟨k + 1, ⟨by omega, by omega⟩, SubS.mk [] rfl ⟨⟨_, rfl, .same⟩, ⟨_, rfl, .same⟩, ⟨_, rfl, .int (by rw [hs]; omega)⟩, ⟨_, rfl, .int (by omega)⟩, trivial⟩ trivial, by omega⟩
        · have hb : lf l (a + k) = false := hb
          rw [hb, if_neg (by decide)] at hs
          conv => whnf
          refine ⟨⟨by unfold inI64; omega⟩, ?_⟩
          conv => whnf
          refine ⟨k + 1, ⟨by omega, by omega⟩, SubS.mk [] rfl ⟨⟨_, rfl, .same⟩, ⟨_, rfl, .same⟩, ⟨_, rfl, .int (by rw [hs]; omega)⟩, ⟨_, rfl, .int (by omega)⟩, trivial⟩ trivial, by omega⟩
      · have he : ¬ ((a + k : Nat) : Int) < l.length := of_decide_eq_false he
        have hcc : cnt (lf l) a k = cnt (lf l) a 680 := (cnt_ext (fun t ht => by unfold lf; rw [List.getD_eq_getElem?_getD, List.getElem?_eq_none (by omega)]; rfl) 680 hk1).symm
        conv => whnf
        refine ⟨fun hg => ?_, fun hg => ?_⟩
        · have hg : (3 : Int) < (cnt (lf l) a k : Nat) := of_decide_eq_true hg
          conv => whnf
          refine done_bool _ _ rfl rfl (Eq.symm ?_)
          rw [← Bool.not_eq_true, few_iff]
          intro hfew
          have := hfew j (by omega)
          rw [← ha, ← hcc] at this
          omega
        · have hg : ¬ (3 : Int) < (cnt (lf l) a k : Nat) := of_decide_eq_false hg
          conv => whnf
          refine ⟨⟨by unfold inI64; omega⟩, ?_⟩
          conv => whnf
          refine ⟨j + 1, ⟨by omega, fun i hi => ?_⟩, SubS.mk [] rfl ⟨⟨_, rfl, .same⟩, ⟨_, rfl, .int (by omega)⟩, trivial⟩ trivial, by omega⟩
          by_cases hij : i = j
          · rw [hij, ← ha, ← hcc]; omega
          · exact hq i (by omega)
    · have hd : decide (((a + k : Nat) : Int) < (a : Int) + 680) = false := hd
      have hd := of_decide_eq_false hd
      have hcc : cnt (lf l) a k = cnt (lf l) a 680 := by rw [show k = 680 by omega]
      conv => whnf
      repeat (refine ⟨fun h => Bool.noConfusion h, fun _ => ?_⟩; conv => whnf)
      refine ⟨fun hg => ?_, fun hg => ?_⟩
      · have hg : (3 : Int) < (cnt (lf l) a k : Nat) := of_decide_eq_true hg
        conv => whnf
        refine done_bool _ _ rfl rfl (Eq.symm ?_)
        rw [← Bool.not_eq_true, few_iff]
        intro hfew
        have := hfew j (by omega)
        rw [← ha, ← hcc] at this
        omega
      · have hg : ¬ (3 : Int) < (cnt (lf l) a k : Nat) := of_decide_eq_false hg
        conv => whnf
        refine ⟨⟨by unfold inI64; omega⟩, ?_⟩
        conv => whnf
        refine ⟨j + 1, ⟨by omega, fun i hi => ?_⟩, SubS.mk [] rfl ⟨⟨_, rfl, .same⟩, ⟨_, rfl, .int (by omega)⟩, trivial⟩ trivial, by omega⟩
        by_cases hij : i = j
        · rw [hij, ← ha, ← hcc]; omega
        · exact hq i (by omega)
  · have hc : ¬ ((17 * j : Nat) : Int) < l.length := of_decide_eq_false hc
    conv => whnf
    refine done_bool _ _ rfl rfl (Eq.symm (few_iff.mpr fun i hi => hq i (by omega)))
theorem f23H (L : List Lst) (hl : L.length < 2 ^ 62) (hL : ∀ x ∈ L, okO x) : HeapCall Try.prog 23 [.pv (ownsP L)] [] (fun r Hout => ∃ g n, n = (bitsOf (xsOf L 12)).length ∧ r = tupV [.pv (lsP (xsOf L 12)), .row 300 g 1 0 n] ∧ Hout = [(300, rowL 5 .u8 g (bitsOf (xsOf L 12)))]) := by
  refine HeapCall.run tab_ok mixed (by kernel_rfl) Try.func23 rfl rfl rfl ?_
  conv => whnf
  refine ex_loop tab_ok mixed (fun x : Nat × Nat × Nat => x.1 ≤ L.length ∧ x.1 ≤ 12) (fun x : Nat × Nat × Nat => mkSt 39 [(0, .pv (ownsP L)), (6, i64 x.1), (4, .row 1003 x.2.1 2 0 x.1), (5, .row 1004 x.2.2 1 0 (340 * x.1))]
      [(1003, outR x.2.1 (xsOf L x.1)), (1004, rowL 5 .u8 x.2.2 (bitsOf (xsOf L x.1)))]) (fun x => 12 - x.1) (0, 0, 0) ⟨Nat.zero_le _, Nat.zero_le _⟩ (SubS.mkN [] [] rfl rfl rfl ?_ ?_) fun x hx => ?_
  · exact ⟨⟨_, rfl, .same⟩, ⟨_, rfl, .same⟩, ⟨_, rfl, .void _ _ _⟩, ⟨_, rfl, .void _ _ _⟩, trivial⟩
  · exact ⟨.inr ⟨rfl, rfl⟩, .inr ⟨rfl, rfl⟩, trivial⟩
  obtain ⟨i, g1, g2⟩ := x
  have hi : i ≤ L.length := hx.1
  have hi12 : i ≤ 12 := hx.2
  have hxl : (xsOf L i).length = i := by simp [xsOf]; omega
  have hbl := bitsOf_len (xsOf L i)
  conv => whnf
  refine ⟨fun hc => ?_, fun hc => ?_⟩
  · have hc : decide ((i : Int) < (L.length : Int)) = true := hc
    have hc := of_decide_eq_true hc
    conv => whnf
    repeat (refine ⟨fun _ => ?_, fun h => Bool.noConfusion h⟩; conv => whnf)
    refine ⟨fun hd => ?_, fun hd => ?_⟩
    · have hd : (i : Int) < 12 := of_decide_eq_true hd
      have hlt : i < L.length := by omega
      conv => whnf
      refine ⟨⟨by omega, hc, rfl⟩, ?_⟩
      conv => whnf
      refine ⟨⟨Nat.le_refl _⟩, ?_⟩
      conv => whnf
      obtain ⟨ho1, ho2, ho3⟩ := hL (L.getD i (0, [])) (by rw [List.getD_eq_getElem?_getD, List.getElem?_eq_getElem hlt]; exact List.getElem_mem hlt)
      have hsucc := xsOf_succ hlt
      obtain ⟨k1, k2, k3⟩ := ownS_ok (x := L.getD i (0, [])) ⟨ho1, ho2, ho3⟩
      have hc25 := f25 (L.getD i (0, [])).1 (L.getD i (0, [])).2 ho1 ho3 ho2
      have hc14 := f14 (ownS (L.getD i (0, []))).1 (ownS (L.getD i (0, []))).2 ⟨k1.1, by omega⟩ (fun y hy => ⟨(k3 y hy).1, by have := (k3 y hy).2; omega⟩) (by omega)
      rw [send_all k1 k3 k2] at hc14
      have hBl := sendN_len (allW (ownS (L.getD i (0, []))).1 (ownS (L.getD i (0, []))).2) 20
      have hbs := bitsOf_snoc (xsOf L i) (ownS (L.getD i (0, [])))
      rw [← hsucc] at hbs
      refine CallK.drop [] hc25 ⟨.agg _ _ _ fun j hj => .same, trivial⟩ ?_
      rw [show (L.getD i (0, [])).1 % 32768 = (ownS (L.getD i (0, []))).1 from rfl, show ofD (L.getD i (0, [])).2 = (ownS (L.getD i (0, []))).2 from rfl]
      generalize hB : sendN (allW (ownS (L.getD i (0, []))).1 (ownS (L.getD i (0, []))).2) 20 = B at *
      generalize ownS (L.getD i (0, [])) = e at *
      obtain ⟨eid, ed⟩ := e
      conv => whnf
      repeat (refine ⟨⟨rfl, rfl, nle rfl, nle rfl⟩, ?_⟩; conv => whnf)
      refine CallK.drop [] hc14 ⟨.agg _ _ _ fun j hj => ?_, trivial⟩ ?_
      · match j with
        | 0 => exact .same
        | 1 => exact .same
      conv => whnf
      repeat (refine ⟨⟨rfl, rfl, nle rfl, nle rfl⟩, ?_⟩; conv => whnf)
      refine ⟨⟨⟨rfl, rfl, rfl, nle rfl⟩, rfl, rfl, rfl, rfl, rfl, hxl.symm, show (i + 1) * 32 ≤ 140737488355328 by omega⟩, ?_⟩
      conv => whnf
      refine ⟨⟨rfl, rfl, rfl, rfl, rfl, rfl, show 340 * i = (bitsOf (xsOf L i)).length by omega, show (340 * i + B.length) * 1 ≤ 140737488355328 by omega⟩, ?_⟩
      conv => whnf
      refine ⟨⟨by unfold inI64; omega⟩, ?_⟩
      conv => whnf
      refine ⟨(i + 1, g1 + 1, g2 + 1), ⟨by show i + 1 ≤ L.length; omega, by show i + 1 ≤ 12; omega⟩, SubS.mkN [] [(1003, 1003), (1004, 1004)] rfl rfl rfl ?_ ?_, by show 12 - (i + 1) < 12 - i; omega⟩
      · exact ⟨⟨_, rfl, .same⟩, ⟨_, rfl, .same⟩, ⟨_, rfl, .row _ _ _ _ _ _ _ _ _ rfl rfl rfl rfl⟩, ⟨_, rfl, .row _ _ _ _ _ _ _ _ _ rfl rfl rfl (show 340 * i + B.length = 340 * (i + 1) by omega)⟩, trivial⟩
      show AllH _ _ _ [(1003, outR _ (xsOf L (i + 1))), (1004, rowL 5 .u8 _ (bitsOf (xsOf L (i + 1))))]
      rw [hbs, hsucc]
      refine ⟨.inl ⟨_, _, rfl, rfl, rfl, rfl, rfl, rfl, (show (xsOf L i ++ [(eid, ed)]).length ≤ i + 1 by simp [hxl]), fun a j ha hj => ?_⟩, .inl ⟨_, _, rfl, rfl, rfl, OLe.rowL rfl rfl rfl (show (bitsOf (xsOf L i) ++ B).length ≤ 340 * i + B.length by rw [List.length_append]; omega) ?_⟩, trivial⟩
      · have ha : a < i + 1 := by have : a < (xsOf L i ++ [(eid, ed)]).length := ha; simp [hxl] at this; omega
        dsimp only
        refine VLe.snoc ha (fun h => ?_) fun h => ?_
        · show VLe _ _ _ _ (.pv (cellP ((xsOf L i ++ [(eid, ed)]).getD a (0, [])) j))
          rw [show (xsOf L i ++ [(eid, ed)]).getD a (0, []) = (xsOf L i).getD a (0, []) by rw [List.getD_eq_getElem?_getD, List.getD_eq_getElem?_getD, List.getElem?_append_left (by omega)]]
          exact .same
        · show VLe _ _ _ _ (.pv (cellP ((xsOf L i ++ [(eid, ed)]).getD a (0, [])) j))
          rw [show (xsOf L i ++ [(eid, ed)]).getD a (0, []) = (eid, ed) by subst h; rw [List.getD_eq_getElem?_getD, List.getElem?_append_right (by omega)]; simp [hxl]]
          match j with
          | 0 => exact .same
          | 1 => exact .same
      · try dsimp only
        exact IsL.cat' (bitsOf (xsOf L i)) B rfl rfl (by omega) IsL.seq IsL.seq
    · have hd : ¬ (i : Int) < 12 := of_decide_eq_false hd
      have e : xsOf L 12 = xsOf L i := by rw [show i = 12 by omega]
      conv => whnf
      refine ⟨_, _, ⟨g2, 340 * i, by rw [e]; omega, rfl, rfl⟩, SubS.mkN [1003] [(300, 1004)] rfl rfl rfl ⟨⟨_, rfl, .tup 2 _ _ fun k hk => ?_⟩, trivial⟩ ?_⟩
      · match k with
        | 0 =>
          show VLe _ _ _ (.row 1003 g1 2 0 i) (.pv (lsP (xsOf L 12)))
          rw [e]
          show VLe _ _ _ (.row 1003 g1 2 0 i) (.pv (.seq 26 2 (xsOf L i).length _))
          rw [hxl]
          refine .frz _ _ _ _ _ (outR g1 (xsOf L i)) _ _ rfl rfl rfl rfl (show 0 + i ≤ (xsOf L i).length by omega) fun a j ha hj => ?_
          rw [Nat.zero_add]
          exact .same
        | 1 => exact .row _ _ _ _ _ _ _ _ _ rfl rfl rfl rfl
      · rw [e]
        exact ⟨.inl ⟨_, _, rfl, rfl, rfl, OLe.rowL rfl rfl rfl (Nat.le_refl _) IsL.seq⟩, trivial⟩
  · have hc : decide ((i : Int) < (L.length : Int)) = false := hc
    have hc := of_decide_eq_false hc
    have e : xsOf L 12 = xsOf L i := by unfold xsOf; rw [List.take_of_length_le (by omega), List.take_of_length_le (by omega)]
    conv => whnf
    repeat (refine ⟨fun h => Bool.noConfusion h, fun _ => ?_⟩; conv => whnf)
    refine ⟨_, _, ⟨g2, 340 * i, by rw [e]; omega, rfl, rfl⟩, SubS.mkN [1003] [(300, 1004)] rfl rfl rfl ⟨⟨_, rfl, .tup 2 _ _ fun k hk => ?_⟩, trivial⟩ ?_⟩
    · match k with
      | 0 =>
        show VLe _ _ _ (.row 1003 g1 2 0 i) (.pv (lsP (xsOf L 12)))
        rw [e]
        show VLe _ _ _ (.row 1003 g1 2 0 i) (.pv (.seq 26 2 (xsOf L i).length _))
        rw [hxl]
        refine .frz _ _ _ _ _ (outR g1 (xsOf L i)) _ _ rfl rfl rfl rfl (show 0 + i ≤ (xsOf L i).length by omega) fun a j ha hj => ?_
        rw [Nat.zero_add]
        exact .same
      | 1 => exact .row _ _ _ _ _ _ _ _ _ rfl rfl rfl rfl
    · rw [e]
      exact ⟨.inl ⟨_, _, rfl, rfl, rfl, OLe.rowL rfl rfl rfl (Nat.le_refl _) IsL.seq⟩, trivial⟩
end Go.Proofs.Ytncmpjpmcliomaa

namespace Go.Proofs.Ytncmpjpmcliomaa
open Go Go.AM
attribute [local irreducible] AWP CallK PureCall SubS HeapCall
def hitsP (h : List (Int × Bool)) : PV := .seq 49 2 h.length fun i j => bif Nat.beq j 0 then .int .u16 (h.getD i (0, false)).1 else .bool (h.getD i (0, false)).2
def IsB (f : Nat → Nat → AV) (L : List Bool) : Prop := ∀ i, i < L.length → f i 0 = .pv (.bool (L.getD i false))
def rowB (g : Nat) (L : List Bool) : AO := ⟨4, g, 1, L.length, fun i _ => .pv (.bool (L.getD i false))⟩
theorem IsB.self {L : List Bool} : IsB (fun i _ => .pv (.bool (L.getD i false))) L := fun _ _ => rfl
theorem IsB.put {f : Nat → Nat → AV} {g : Nat → AV} {L : List Bool} {i : Nat} {v : Bool} (h : IsB f L) (hi : i < L.length) (hg : g 0 = .pv (.bool v)) : IsB (setCells f i 0 1 g) (L.set i v) := fun j hj => by
  have hj : j < L.length := by simpa using hj
  unfold setCells
  by_cases hji : j = i
  · subst hji
    rw [show Nat.beq j j = true from Nat.beq_refl j]
    show g 0 = _
    rw [hg, List.getD_eq_getElem?_getD, List.getElem?_set_self hi]; rfl
  · have hb : Nat.beq j i = false := by
      cases hc : Nat.beq j i with
      | true => exact absurd (Nat.eq_of_beq_eq_true hc) hji
      | false => rfl
    rw [hb]
    show f j 0 = _
    rw [h j hj, List.getD_eq_getElem?_getD, List.getD_eq_getElem?_getD, List.getElem?_set_ne (Ne.symm hji)]
section
variable {H : Heap} {B : List Nat} {U : List (Nat × Nat)}
theorem ole_rowB {o : AO} {gen : Nat} {L : List Bool} (hE : 4 = o.E) (hg : gen = o.gen) (hs : o.sz = 1) (hn : L.length ≤ o.n) (h : IsB o.f L) : OLe H B U o (rowB gen L) := by
  refine ⟨hE, hg, hs.symm, hn, fun i j hi hj => ?_⟩
  have hj0 : j = 0 := by omega
  subst hj0
  rw [h i hi]
  exact .same
theorem vle_frzB {id gen len : Nat} {L : List Bool} (o : AO) (hb : memN id B = true) (ho : H id = some o) (hg : gen = o.gen) (hs : o.sz = 1) (hn : len ≤ o.n) (hl : len = L.length) (h : IsB o.f L) : VLe H B U (.row id gen 1 0 len) (.pv (bq L)) := by
  subst hl
  refine .frz id gen 1 0 _ o 4 _ hb ho hg hs.symm (by omega) fun i j hi hj => ?_
  have hj0 : j = 0 := by omega
  subst hj0
  rw [Nat.zero_add, h i hi]
  exact .same
end
theorem getD_app_lt {α : Type} {l m : List α} {d : α} {a : Nat} (h : a < l.length) : (l ++ m).getD a d = l.getD a d := by
  rw [List.getD_eq_getElem?_getD, List.getD_eq_getElem?_getD, List.getElem?_append_left h]
theorem getD_app_eq {α : Type} {l : List α} {x d : α} {a : Nat} (h : a = l.length) : (l ++ [x]).getD a d = x := by
  subst h
  rw [List.getD_eq_getElem?_getD, List.getElem?_append_right (Nat.le_refl _), Nat.sub_self]; rfl
theorem set_getD {l : List Int} {k : Nat} (_h : k < l.length) : l.set k (l.getD k 0) = l := by
  refine List.ext_getElem (by simp) fun j h1 h2 => ?_
  rw [List.getElem_set]
  split
  · rename_i h; subst h; rw [List.getD_eq_getElem?_getD, List.getElem?_eq_getElem h2]; rfl
  · rfl
/-- The bits when so many are damaged. -/
def mixL (B : List Int) (inv lo : Nat → Bool) (N i : Nat) : List Int := (List.range N).map fun k => if k < i then dmB (fun k => B.getD k 0) inv lo k else B.getD k 0
theorem mixL_get {B : List Int} {inv lo : Nat → Bool} {N i k : Nat} (h : k < N) : (mixL B inv lo N i).getD k 0 = if k < i then dmB (fun k => B.getD k 0) inv lo k else B.getD k 0 := by
  simp [mixL, List.getD_eq_getElem?_getD, h]
theorem mixL_set {B : List Int} {inv lo : Nat → Bool} {N i : Nat} {v : Int} (_h : i < N) (hv : v = dmB (fun k => B.getD k 0) inv lo i) : (mixL B inv lo N i).set i v = mixL B inv lo N (i + 1) := by
  refine List.ext_getElem (by simp [mixL]) fun k h1 h2 => ?_
  rw [List.getElem_set]
  have hk : k < N := by simpa [mixL] using h2
  by_cases hki : i = k
  · subst hki
    rw [if_pos rfl, hv]
    simp [mixL]
  · rw [if_neg hki]
    simp only [mixL, List.getElem_map, List.getElem_range]
    by_cases hlt : k < i
    · rw [if_pos hlt, if_pos (by omega)]
    · rw [if_neg hlt, if_neg (by omega)]
theorem f7 (L : List Lst) (hits : List (Int × Bool)) (hl : L.length < 2 ^ 60) (hL : ∀ x ∈ L, okO x) (_hh : hits.length < 2 ^ 60) (hH : ∀ x ∈ hits, W x.1) : PureCall Try.prog 7 [.pv (ownsP L), .pv (hitsP hits)] (bb true) := by
  have hxs : ∀ x ∈ xsOf L 12, okL x := fun x hx => by
    obtain ⟨y, hy, rfl⟩ := List.mem_map.mp hx
    exact ownS_ok (hL y (List.mem_of_mem_take hy))
  have hxl : (xsOf L 12).length ≤ 12 := by simp [xsOf]; omega
  have hc := f23H L (by omega) hL
  have hbl := bitsOf_len (xsOf L 12)
  generalize xsOf L 12 = xs at *
  obtain ⟨B, hB⟩ : ∃ B, B = bitsOf xs := ⟨_, rfl⟩
  rw [← hB] at hc hbl
  refine PureCall.run tab_ok mixed (by kernel_rfl) Try.func7 rfl rfl rfl ?_
  conv => whnf
  refine CallK.heap hc [] [] rfl rfl ⟨.same, trivial⟩ trivial 1000 rfl ?_
  rintro r Hout ⟨g, N, hN, rfl, rfl⟩
  conv => whnf
  refine ⟨fun h0 => ?_, fun h0 => ?_⟩
  · conv => whnf
    refine CallK.flat [] awake trivial rfl ?_
    conv => whnf
    exact done_bool _ _ rfl rfl rfl
  have hpos : 0 < xs.length := by
    have h0 : ((xs.length : Int) == 0) = false := h0
    have : ¬ (xs.length : Int) = 0 := by simpa using h0
    omega
  conv => whnf
  refine ⟨⟨show inI64 (340 * (xs.length : Int)) by unfold inI64; omega⟩, ?_⟩
  conv => whnf
  have hq1 : ((N : Int) != 340 * (xs.length : Int)) = false := by rw [bne_eq_false_iff_eq]; omega
  refine ⟨fun h => absurd ((hq1.symm.trans h)) (by decide), fun _ => ?_⟩
  conv => whnf
  refine ⟨⟨show (0 : Int) ≤ N by omega, Int.le_refl _, show (N : Int) ≤ 140737488355328 by omega, show (N : Int) * 1 ≤ 281474976710656 by omega⟩, ?_⟩
  conv => whnf
  refine ⟨⟨show (0 : Int) ≤ N by omega, Int.le_refl _, show (N : Int) ≤ 140737488355328 by omega, show (N : Int) * 1 ≤ 281474976710656 by omega⟩, ?_⟩
  conv => whnf
  have hN0 : 0 < N := by omega
  have hNt : (N : Int).toNat = N := by omega
  have hfew0 : fewP (List.replicate N false) := fun j _ => by
    have : cnt (lf (List.replicate N false)) (17 * j) 680 = cnt (lf (List.replicate N false)) (17 * j) 0 := cnt_ext (fun t _ => by unfold lf; rw [List.getD_eq_getElem?_getD, List.getElem?_replicate]; split <;> rfl) 680 (Nat.zero_le _)
    rw [this]; exact Nat.zero_le _
  refine ex_loop tab_ok mixed (fun x : Nat × List Bool × List Bool => x.1 ≤ hits.length ∧ x.1 ≤ 60 ∧ x.2.1.length = N ∧ x.2.2.length = N ∧ fewP x.2.1) (fun x : Nat × List Bool × List Bool => mkSt 150 [(1, .pv (hitsP hits)), (5, .pv (lsP xs)), (6, .row 1300 g 1 0 N), (7, .row 34 0 1 0 N), (8, .row 37 0 1 0 N), (9, i64 x.1)]
      [(1300, rowL 5 .u8 g B), (34, rowB 0 x.2.1), (37, rowB 0 x.2.2)]) (fun x => 60 - x.1) (0, List.replicate N false, List.replicate N false) ⟨Nat.zero_le _, Nat.zero_le _, by simp, by simp, hfew0⟩ (SubS.mk [] rfl ?_ ?_) fun x hx => ?_
  · exact ⟨⟨_, rfl, .same⟩, ⟨_, rfl, .same⟩, ⟨_, rfl, .row _ _ _ _ _ _ _ _ _ rfl rfl rfl rfl⟩, ⟨_, rfl, .row _ _ _ _ _ _ _ _ _ rfl rfl rfl hNt⟩, ⟨_, rfl, .row _ _ _ _ _ _ _ _ _ rfl rfl rfl hNt⟩, ⟨_, rfl, .same⟩, trivial⟩
  · refine ⟨.inl ⟨_, _, rfl, rfl, rfl, OLe.rowL rfl rfl rfl (Nat.le_refl _) IsL.seq⟩, .inl ⟨_, _, rfl, rfl, rfl, ole_rowB rfl rfl rfl (by rw [List.length_replicate]; exact Nat.le_of_eq hNt.symm) fun i hi => ?_⟩, .inl ⟨_, _, rfl, rfl, rfl, ole_rowB rfl rfl rfl (by rw [List.length_replicate]; exact Nat.le_of_eq hNt.symm) fun i hi => ?_⟩, trivial⟩
    all_goals
      have hi : i < N := by simpa using hi
      rw [show (List.replicate N false).getD i false = false by rw [List.getD_eq_getElem?_getD, List.getElem?_replicate]; split <;> rfl]
  obtain ⟨i, inv, lo⟩ := x
  have hi1 : i ≤ hits.length := hx.1
  have hi60 : i ≤ 60 := hx.2.1
  have hinv : inv.length = N := hx.2.2.1
  have hlo : lo.length = N := hx.2.2.2.1
  have hfew : fewP inv := hx.2.2.2.2
  conv => whnf
  refine ⟨fun hc => ?_, fun hc => ?_⟩
  have hc : decide ((i : Int) < (hits.length : Int)) = true := hc
  have hc := of_decide_eq_true hc
  conv => whnf
  repeat (refine ⟨fun _ => ?_, fun h => Bool.noConfusion h⟩; conv => whnf)
  refine ⟨fun hd => ?_, fun hd => ?_⟩
  · have hd : (i : Int) < 60 := of_decide_eq_true hd
    have hlt : i < hits.length := by omega
    conv => whnf
    refine ⟨⟨by omega, hc, rfl⟩, ?_⟩
    conv => whnf
    repeat (refine ⟨⟨nle rfl⟩, ?_⟩; conv => whnf)
    refine ⟨⟨show (N : Int) ≠ 0 by omega⟩, ?_⟩
    conv => whnf
    have haW := hH (hits.getD i (0, false)) (by rw [List.getD_eq_getElem?_getD, List.getElem?_eq_getElem hlt]; exact List.getElem_mem hlt)
    obtain ⟨a, ha, haN⟩ : ∃ a : Nat, Int.tmod (IntKind.i64.wrap (hits.getD (i : Int).toNat (0, false)).1) (N : Int) = a ∧ a < N := by
      rw [show (i : Int).toNat = i by omega]
      unfold W at haW
      rw [wi64 (by omega) (by omega), Int.tmod_eq_emod_of_nonneg haW.1]
      have h1 := Int.emod_nonneg (hits.getD i (0, false)).1 (show (N : Int) ≠ 0 by omega)
      have h2 := Int.emod_lt_of_pos (hits.getD i (0, false)).1 (show (0 : Int) < N by omega)
      exact ⟨((hits.getD i (0, false)).1 % (N : Int)).toNat, by omega, by omega⟩
    rw [ha]
    refine ⟨⟨by omega, hc, rfl⟩, ?_⟩
    conv => whnf
    repeat (refine ⟨⟨nle rfl⟩, ?_⟩; conv => whnf)
    have hidx : 0 + (a : Int).toNat = a := by omega
    refine ⟨fun hlost => ?_, fun hlost => ?_⟩
    · conv => whnf
      refine ⟨⟨by omega, by omega, rfl⟩, ?_⟩
      conv => whnf
      refine ⟨⟨rfl, rfl, show 0 + (a : Int).toNat < lo.length by omega, nle rfl⟩, ?_⟩
      conv => whnf
      refine ⟨⟨by unfold inI64; omega⟩, ?_⟩
      conv => whnf
      refine ⟨(i + 1, inv, lo.set a true), ⟨by show i + 1 ≤ _; omega, by show i + 1 ≤ 60; omega, hinv, by simp [hlo], hfew⟩, SubS.mk [] rfl ?_ ?_, by show 60 - (i + 1) < 60 - i; omega⟩
      · exact ⟨⟨_, rfl, .same⟩, ⟨_, rfl, .same⟩, ⟨_, rfl, .row _ _ _ _ _ _ _ _ _ rfl rfl rfl rfl⟩, ⟨_, rfl, .row _ _ _ _ _ _ _ _ _ rfl rfl rfl rfl⟩, ⟨_, rfl, .row _ _ _ _ _ _ _ _ _ rfl rfl rfl rfl⟩, ⟨_, rfl, .same⟩, trivial⟩
      · refine ⟨.inl ⟨_, _, rfl, rfl, rfl, OLe.rowL rfl rfl rfl (Nat.le_refl _) IsL.seq⟩, .inl ⟨_, _, rfl, rfl, rfl, ole_rowB rfl rfl rfl (Nat.le_refl _) IsB.self⟩, .inl ⟨_, _, rfl, rfl, rfl, ole_rowB rfl rfl rfl (show (lo.set a true).length ≤ lo.length by simp) ?_⟩, trivial⟩
        try dsimp only
        rw [hidx]
        exact IsB.put IsB.self (by omega) rfl
    · conv => whnf
      refine ⟨⟨by omega, by omega, rfl⟩, ?_⟩
      conv => whnf
      refine ⟨⟨rfl, rfl, show 0 + (a : Int).toNat < inv.length by omega, nle rfl⟩, ?_⟩
      conv => whnf
      refine ⟨⟨by omega, by omega, rfl⟩, ?_⟩
      conv => whnf
      refine ⟨⟨rfl, rfl, show 0 + (a : Int).toNat < inv.length by omega, nle rfl⟩, ?_⟩
      conv => whnf
      have hput : ∀ {F : Nat → Nat → AV} {g : Nat → AV} {M : List Bool} {v : Bool}, M.length = N → IsB F M → g 0 = .pv (.bool v) → IsB (setCells F (0 + (a : Int).toNat) 0 1 g) (M.set a v) := fun {F g M v} hM hF hg => by
        rw [hidx]
        exact IsB.put hF (by omega) hg
      have hlf : ∀ M : List Bool, M.length = N → M.set a (M.getD a false) = M := fun M hM => by
        refine List.ext_getElem (by simp) fun k h1 h2 => ?_
        rw [List.getElem_set]
        split
        · rename_i h; subst h; rw [List.getD_eq_getElem?_getD, List.getElem?_eq_getElem h2]; rfl
        · rfl
      have hnew : ∀ (M : List Bool), M.length = N → fewP M → ∀ {st : ASt}, SubS st (mkSt 150 [(1, .pv (hitsP hits)), (5, .pv (lsP xs)), (6, .row 1300 g 1 0 N), (7, .row 34 0 1 0 N), (8, .row 37 0 1 0 N), (9, i64 (i + 1 : Nat))] [(1300, rowL 5 .u8 g B), (34, rowB 0 M), (37, rowB 0 lo)]) →
          ∃ y : Nat × List Bool × List Bool, (y.1 ≤ hits.length ∧ y.1 ≤ 60 ∧ y.2.1.length = N ∧ y.2.2.length = N ∧ fewP y.2.1) ∧ SubS st (mkSt 150 [(1, .pv (hitsP hits)), (5, .pv (lsP xs)), (6, .row 1300 g 1 0 N), (7, .row 34 0 1 0 N), (8, .row 37 0 1 0 N), (9, i64 y.1)] [(1300, rowL 5 .u8 g B), (34, rowB 0 y.2.1), (37, rowB 0 y.2.2)]) ∧ 60 - y.1 < 60 - i := fun M h1 h2 {st} h3 =>
        ⟨(i + 1, M, lo), ⟨by show i + 1 ≤ _; omega, by show i + 1 ≤ 60; omega, h1, hlo, h2⟩, h3, by show 60 - (i + 1) < 60 - i; omega⟩
      have hga : inv.getD (0 + (a : Int).toNat) false = inv.getD a false := by rw [hidx]
      refine ⟨fun hwas => ?_, fun hwas => ?_⟩
      · have hwas : inv.getD a false = false := by rw [← hga]; exact hwas
        conv => whnf
        repeat (refine ⟨fun _ => ?_, fun h => Bool.noConfusion h⟩; conv => whnf)
        refine CallK.flat [34] (f24 (inv.set a true) (by simp; omega)) ⟨vle_frzB _ rfl rfl rfl rfl (show N ≤ inv.length by omega) (by simp [hinv]) ?_, trivial⟩ rfl ?_
        · try dsimp only
          exact hput hinv IsB.self rfl
        have hfi := few_iff (l := inv.set a true)
        generalize fewB (inv.set a true) = b at hfi ⊢
        have hfM : fewP ((inv.set a true).set a b) := by
          rw [List.set_set]
          cases b with
          | true => exact hfi.mp rfl
          | false =>
            have := hlf inv hinv
            rw [hwas] at this
            rw [this]; exact hfew
        conv => whnf
        repeat (refine ⟨fun _ => ?_, fun h => Bool.noConfusion h⟩; conv => whnf)
        refine ⟨⟨by omega, by omega, rfl⟩, ?_⟩
        conv => whnf
        refine ⟨⟨rfl, rfl, show 0 + (a : Int).toNat < inv.length by omega, nle rfl⟩, ?_⟩
        conv => whnf
        refine ⟨⟨by unfold inI64; omega⟩, ?_⟩
        conv => whnf
        refine hnew ((inv.set a true).set a b) (by simp [hinv]) hfM (SubS.mk [] rfl ?_ ?_)
        · exact ⟨⟨_, rfl, .same⟩, ⟨_, rfl, .same⟩, ⟨_, rfl, .row _ _ _ _ _ _ _ _ _ rfl rfl rfl rfl⟩, ⟨_, rfl, .row _ _ _ _ _ _ _ _ _ rfl rfl rfl rfl⟩, ⟨_, rfl, .row _ _ _ _ _ _ _ _ _ rfl rfl rfl rfl⟩, ⟨_, rfl, .same⟩, trivial⟩
        · refine ⟨.inl ⟨_, _, rfl, rfl, rfl, OLe.rowL rfl rfl rfl (Nat.le_refl _) IsL.seq⟩, .inl ⟨_, _, rfl, rfl, rfl, ole_rowB rfl rfl rfl (show ((inv.set a true).set a _).length ≤ inv.length by simp) ?_⟩, .inl ⟨_, _, rfl, rfl, rfl, ole_rowB rfl rfl rfl (Nat.le_refl _) IsB.self⟩, trivial⟩
          try dsimp only
          exact hput (by simp [hinv]) (hput hinv IsB.self rfl) rfl
      · have hwas : inv.getD a false = true := by rw [← hga]; exact hwas
        have hfM : fewP ((inv.set a true).set a true) := by
          rw [List.set_set]
          have := hlf inv hinv
          rw [hwas] at this
          rw [this]; exact hfew
        conv => whnf
        repeat (refine ⟨fun h => Bool.noConfusion h, fun _ => ?_⟩; conv => whnf)
        refine ⟨⟨by omega, by omega, rfl⟩, ?_⟩
        conv => whnf
        refine ⟨⟨rfl, rfl, show 0 + (a : Int).toNat < inv.length by omega, nle rfl⟩, ?_⟩
        conv => whnf
        refine ⟨⟨by unfold inI64; omega⟩, ?_⟩
        conv => whnf
        refine hnew ((inv.set a true).set a true) (by simp [hinv]) hfM (SubS.mk [] rfl ?_ ?_)
        · exact ⟨⟨_, rfl, .same⟩, ⟨_, rfl, .same⟩, ⟨_, rfl, .row _ _ _ _ _ _ _ _ _ rfl rfl rfl rfl⟩, ⟨_, rfl, .row _ _ _ _ _ _ _ _ _ rfl rfl rfl rfl⟩, ⟨_, rfl, .row _ _ _ _ _ _ _ _ _ rfl rfl rfl rfl⟩, ⟨_, rfl, .same⟩, trivial⟩
        · refine ⟨.inl ⟨_, _, rfl, rfl, rfl, OLe.rowL rfl rfl rfl (Nat.le_refl _) IsL.seq⟩, .inl ⟨_, _, rfl, rfl, rfl, ole_rowB rfl rfl rfl (show ((inv.set a true).set a _).length ≤ inv.length by simp) ?_⟩, .inl ⟨_, _, rfl, rfl, rfl, ole_rowB rfl rfl rfl (Nat.le_refl _) IsB.self⟩, trivial⟩
          try dsimp only
          exact hput (by simp [hinv]) (hput hinv IsB.self rfl) rfl
  have hd : ¬ (i : Int) < 60 := of_decide_eq_false hd
  conv => whnf
  clear hd
  rotate_left
  have hc : decide ((i : Int) < (hits.length : Int)) = false := hc
  conv => whnf
  repeat (refine ⟨fun h => Bool.noConfusion h, fun _ => ?_⟩; conv => whnf)
  all_goals
    have hF : ∀ j, 17 * j < 340 * xs.length → cnt (lf inv) (17 * j) 680 ≤ 3 := fun j hj => hfew j (by omega)
    have hwlen : ∀ q, (wantN xs (lf inv) (lf lo) q).length ≤ q := fun q => by
      induction q with
      | zero => exact Nat.le_refl _
      | succ q ih =>
        show (bif wholeB (lf inv) (lf lo) q 340 then wantN xs (lf inv) (lf lo) q ++ [xs.getD q (0, [])] else wantN xs (lf inv) (lf lo) q).length ≤ q + 1
        cases wholeB (lf inv) (lf lo) q 340 with
        | true => rw [cond_true, List.length_append]; simp only [List.length_cons, List.length_nil]; omega
        | false => rw [cond_false]; omega
    refine ex_loop tab_ok mixed (fun x : Nat × Nat => x.1 ≤ xs.length) (fun x : Nat × Nat => mkSt 150 [(5, .pv (lsP xs)), (6, .row 1300 g 1 0 N), (7, .row 34 0 1 0 N), (8, .row 37 0 1 0 N), (12, .row 1012 x.2 2 0 (wantN xs (lf inv) (lf lo) x.1).length), (13, i64 x.1)] [(1300, rowL 5 .u8 g B), (34, rowB 0 inv), (37, rowB 0 lo), (1012, outR x.2 (wantN xs (lf inv) (lf lo) x.1))]) (fun x => xs.length - x.1) (0, 0) (Nat.zero_le _) (SubS.mkN [] [(1300, 1300), (34, 34), (37, 37)] rfl rfl rfl ?_ ?_) fun x hx => ?_
    · exact ⟨⟨_, rfl, .same⟩, ⟨_, rfl, .row _ _ _ _ _ _ _ _ _ rfl rfl rfl rfl⟩, ⟨_, rfl, .row _ _ _ _ _ _ _ _ _ rfl rfl rfl rfl⟩, ⟨_, rfl, .row _ _ _ _ _ _ _ _ _ rfl rfl rfl rfl⟩, ⟨_, rfl, .void _ _ _⟩, ⟨_, rfl, .same⟩, trivial⟩
    · exact ⟨.inl ⟨_, _, rfl, rfl, rfl, OLe.rowL rfl rfl rfl (Nat.le_refl _) IsL.seq⟩, .inl ⟨_, _, rfl, rfl, rfl, ole_rowB rfl rfl rfl (Nat.le_refl _) IsB.self⟩, .inl ⟨_, _, rfl, rfl, rfl, ole_rowB rfl rfl rfl (Nat.le_refl _) IsB.self⟩, .inr ⟨rfl, rfl⟩, trivial⟩
    obtain ⟨i, g3⟩ := x
    have hi : i ≤ xs.length := hx
    conv => whnf
    refine ⟨fun hc => ?_, fun hc => ?_⟩
    · have hc : (i : Int) < xs.length := of_decide_eq_true hc
      have hlt : i < xs.length := by omega
      have hws : wantN xs (lf inv) (lf lo) (i + 1) = bif wholeB (lf inv) (lf lo) i 340 then wantN xs (lf inv) (lf lo) i ++ [xs.getD i (0, [])] else wantN xs (lf inv) (lf lo) i := rfl
      have hwl := hwlen i
      generalize wantN xs (lf inv) (lf lo) i = wn at hws hwl ⊢
      conv => whnf
      refine ⟨⟨show inI64 (340 * (i : Int)) by unfold inI64; omega⟩, ?_⟩
      conv => whnf
      refine ex_loop tab_ok mixed (fun k => k ≤ 340) (fun k : Nat => mkSt 150 [(5, .pv (lsP xs)), (6, .row 1300 g 1 0 N), (7, .row 34 0 1 0 N), (8, .row 37 0 1 0 N), (12, .row 1012 g3 2 0 wn.length), (13, i64 i), (14, bb (wholeB (lf inv) (lf lo) i k)), (15, i64 (340 * i + k : Nat))] [(1300, rowL 5 .u8 g B), (34, rowB 0 inv), (37, rowB 0 lo), (1012, outR g3 wn)]) (fun k => 340 - k) 0 (Nat.zero_le _) (SubS.mk [] rfl ?_ ?_) fun k hk => ?_
      · exact ⟨⟨_, rfl, .same⟩, ⟨_, rfl, .row _ _ _ _ _ _ _ _ _ rfl rfl rfl rfl⟩, ⟨_, rfl, .row _ _ _ _ _ _ _ _ _ rfl rfl rfl rfl⟩, ⟨_, rfl, .row _ _ _ _ _ _ _ _ _ rfl rfl rfl rfl⟩, ⟨_, rfl, .row _ _ _ _ _ _ _ _ _ rfl rfl rfl rfl⟩, ⟨_, rfl, .same⟩, ⟨_, rfl, .same⟩, ⟨_, rfl, .int (show 340 * (i : Int) = ((340 * i + 0 : Nat) : Int) by omega)⟩, trivial⟩
      · exact ⟨.inl ⟨_, _, rfl, rfl, rfl, OLe.rowL rfl rfl rfl (Nat.le_refl _) IsL.seq⟩, .inl ⟨_, _, rfl, rfl, rfl, ole_rowB rfl rfl rfl (Nat.le_refl _) IsB.self⟩, .inl ⟨_, _, rfl, rfl, rfl, ole_rowB rfl rfl rfl (Nat.le_refl _) IsB.self⟩, .inl ⟨_, _, rfl, rfl, rfl, rfl, rfl, rfl, Nat.le_refl _, fun i j hi hj => .same⟩, trivial⟩
      have hk : k ≤ 340 := hk
      conv => whnf
      refine ⟨⟨show inI64 (340 * (i : Int)) by unfold inI64; omega⟩, ?_⟩
      conv => whnf
      refine ⟨⟨show inI64 (340 * (i : Int) + 340) by unfold inI64; omega⟩, ?_⟩
      conv => whnf
      refine ⟨fun hd => ?_, fun hd => ?_⟩
      · have hd : ((340 * i + k : Nat) : Int) < 340 * i + 340 := of_decide_eq_true hd
        have hkN : 340 * i + k < N := by omega
        have hidx : 0 + ((340 * i + k : Nat) : Int).toNat = 340 * i + k := by omega
        have hw1 : wholeB (lf inv) (lf lo) i (k + 1) = (wholeB (lf inv) (lf lo) i k && (!inv.getD (340 * i + k) false && !lo.getD (340 * i + k) false)) := by
          unfold wholeB
          rw [List.range_succ, List.all_append]
          simp [lf]
        generalize wholeB (lf inv) (lf lo) i k = b at hw1 ⊢
        have hi1' : inv.getD (0 + ((340 * i + k : Nat) : Int).toNat) false = inv.getD (340 * i + k) false := by rw [hidx]
        have hl1' : lo.getD (0 + ((340 * i + k : Nat) : Int).toNat) false = lo.getD (340 * i + k) false := by rw [hidx]
        cases b with
        | true =>
          conv => whnf
          repeat (refine ⟨fun _ => ?_, fun h => Bool.noConfusion h⟩; conv => whnf)
          refine ⟨⟨by omega, by omega, rfl⟩, ?_⟩
          conv => whnf
          repeat (refine ⟨fun _ => ?_, fun h => Bool.noConfusion h⟩; conv => whnf)
          refine ⟨⟨rfl, rfl, show 0 + ((340 * i + k : Nat) : Int).toNat < inv.length by omega, nle rfl⟩, ?_⟩
          conv => whnf
          repeat (refine ⟨fun _ => ?_, fun h => Bool.noConfusion h⟩; conv => whnf)
          refine ⟨fun hp => ?_, fun hp => ?_⟩
          · have hp : (!inv.getD (340 * i + k) false) = true := by rw [← hi1']; exact hp
            conv => whnf
            repeat (refine ⟨fun _ => ?_, fun h => Bool.noConfusion h⟩; conv => whnf)
            refine ⟨⟨by omega, by omega, rfl⟩, ?_⟩
            conv => whnf
            repeat (refine ⟨fun _ => ?_, fun h => Bool.noConfusion h⟩; conv => whnf)
            refine ⟨⟨rfl, rfl, show 0 + ((340 * i + k : Nat) : Int).toNat < lo.length by omega, nle rfl⟩, ?_⟩
            conv => whnf
            repeat (refine ⟨fun _ => ?_, fun h => Bool.noConfusion h⟩; conv => whnf)
            refine ⟨⟨by unfold inI64; omega⟩, ?_⟩
            conv => whnf
            refine ⟨k + 1, by show k + 1 ≤ 340; omega, SubS.mk [] rfl ?_ ?_, by omega⟩
            · exact ⟨⟨_, rfl, .same⟩, ⟨_, rfl, .row _ _ _ _ _ _ _ _ _ rfl rfl rfl rfl⟩, ⟨_, rfl, .row _ _ _ _ _ _ _ _ _ rfl rfl rfl rfl⟩, ⟨_, rfl, .row _ _ _ _ _ _ _ _ _ rfl rfl rfl rfl⟩, ⟨_, rfl, .row _ _ _ _ _ _ _ _ _ rfl rfl rfl rfl⟩, ⟨_, rfl, .same⟩, ⟨_, rfl, .bool (by rw [hw1, hp, hl1', Bool.true_and, Bool.true_and])⟩, ⟨_, rfl, .int (by omega)⟩, trivial⟩
            · exact ⟨.inl ⟨_, _, rfl, rfl, rfl, OLe.rowL rfl rfl rfl (Nat.le_refl _) IsL.seq⟩, .inl ⟨_, _, rfl, rfl, rfl, ole_rowB rfl rfl rfl (Nat.le_refl _) IsB.self⟩, .inl ⟨_, _, rfl, rfl, rfl, ole_rowB rfl rfl rfl (Nat.le_refl _) IsB.self⟩, .inl ⟨_, _, rfl, rfl, rfl, rfl, rfl, rfl, Nat.le_refl _, fun i j hi hj => .same⟩, trivial⟩
          · have hp : (!inv.getD (340 * i + k) false) = false := by rw [← hi1']; exact hp
            conv => whnf
            repeat (refine ⟨fun h => Bool.noConfusion h, fun _ => ?_⟩; conv => whnf)
            refine ⟨⟨by unfold inI64; omega⟩, ?_⟩
            conv => whnf
            refine ⟨k + 1, by show k + 1 ≤ 340; omega, SubS.mk [] rfl ?_ ?_, by omega⟩
            · exact ⟨⟨_, rfl, .same⟩, ⟨_, rfl, .row _ _ _ _ _ _ _ _ _ rfl rfl rfl rfl⟩, ⟨_, rfl, .row _ _ _ _ _ _ _ _ _ rfl rfl rfl rfl⟩, ⟨_, rfl, .row _ _ _ _ _ _ _ _ _ rfl rfl rfl rfl⟩, ⟨_, rfl, .row _ _ _ _ _ _ _ _ _ rfl rfl rfl rfl⟩, ⟨_, rfl, .same⟩, ⟨_, rfl, .bool (by rw [hw1, hp, Bool.false_and, Bool.and_false])⟩, ⟨_, rfl, .int (by omega)⟩, trivial⟩
            · exact ⟨.inl ⟨_, _, rfl, rfl, rfl, OLe.rowL rfl rfl rfl (Nat.le_refl _) IsL.seq⟩, .inl ⟨_, _, rfl, rfl, rfl, ole_rowB rfl rfl rfl (Nat.le_refl _) IsB.self⟩, .inl ⟨_, _, rfl, rfl, rfl, ole_rowB rfl rfl rfl (Nat.le_refl _) IsB.self⟩, .inl ⟨_, _, rfl, rfl, rfl, rfl, rfl, rfl, Nat.le_refl _, fun i j hi hj => .same⟩, trivial⟩
        | false =>
          conv => whnf
          repeat (refine ⟨fun h => Bool.noConfusion h, fun _ => ?_⟩; conv => whnf)
          refine ⟨⟨by unfold inI64; omega⟩, ?_⟩
          conv => whnf
          refine ⟨k + 1, by show k + 1 ≤ 340; omega, SubS.mk [] rfl ?_ ?_, by omega⟩
          · exact ⟨⟨_, rfl, .same⟩, ⟨_, rfl, .row _ _ _ _ _ _ _ _ _ rfl rfl rfl rfl⟩, ⟨_, rfl, .row _ _ _ _ _ _ _ _ _ rfl rfl rfl rfl⟩, ⟨_, rfl, .row _ _ _ _ _ _ _ _ _ rfl rfl rfl rfl⟩, ⟨_, rfl, .row _ _ _ _ _ _ _ _ _ rfl rfl rfl rfl⟩, ⟨_, rfl, .same⟩, ⟨_, rfl, .bool (by rw [hw1, Bool.false_and])⟩, ⟨_, rfl, .int (by omega)⟩, trivial⟩
          · exact ⟨.inl ⟨_, _, rfl, rfl, rfl, OLe.rowL rfl rfl rfl (Nat.le_refl _) IsL.seq⟩, .inl ⟨_, _, rfl, rfl, rfl, ole_rowB rfl rfl rfl (Nat.le_refl _) IsB.self⟩, .inl ⟨_, _, rfl, rfl, rfl, ole_rowB rfl rfl rfl (Nat.le_refl _) IsB.self⟩, .inl ⟨_, _, rfl, rfl, rfl, rfl, rfl, rfl, Nat.le_refl _, fun i j hi hj => .same⟩, trivial⟩
      · have hd : ¬ ((340 * i + k : Nat) : Int) < 340 * i + 340 := of_decide_eq_false hd
        have hk340 : k = 340 := by omega
        have hkk : wholeB (lf inv) (lf lo) i k = wholeB (lf inv) (lf lo) i 340 := by rw [hk340]
        rw [hkk]
        generalize wholeB (lf inv) (lf lo) i 340 = b at hws ⊢
        conv => whnf
        refine ⟨fun hb => ?_, fun hb => ?_⟩
        · have hb : b = true := hb
          subst hb
          have hws : wantN xs (lf inv) (lf lo) (i + 1) = wn ++ [xs.getD i (0, [])] := hws
          conv => whnf
          refine ⟨⟨by omega, by omega, rfl⟩, ?_⟩
          conv => whnf
          refine ⟨⟨Nat.le_refl _⟩, ?_⟩
          conv => whnf
          refine ⟨⟨⟨rfl, rfl, rfl, nle rfl⟩, rfl, rfl, rfl, rfl, rfl, rfl, show (wn.length + 1) * 32 ≤ 140737488355328 by omega⟩, ?_⟩
          conv => whnf
          refine ⟨⟨by unfold inI64; omega⟩, ?_⟩
          conv => whnf
          refine ⟨(i + 1, g3 + 1), by show i + 1 ≤ xs.length; omega, SubS.mk [] rfl ?_ ?_, by show xs.length - (i + 1) < xs.length - i; omega⟩
          · refine ⟨⟨_, rfl, .same⟩, ⟨_, rfl, .row _ _ _ _ _ _ _ _ _ rfl rfl rfl rfl⟩, ⟨_, rfl, .row _ _ _ _ _ _ _ _ _ rfl rfl rfl rfl⟩, ⟨_, rfl, .row _ _ _ _ _ _ _ _ _ rfl rfl rfl rfl⟩, ⟨_, rfl, ?_⟩, ⟨_, rfl, .same⟩, trivial⟩
            show VLe _ _ _ _ (.row 1012 _ 2 0 (wantN xs (lf inv) (lf lo) (i + 1)).length)
            rw [hws]
            exact .row _ _ _ _ _ _ _ _ _ rfl rfl rfl (by simp)
          show AllH _ _ _ [(1300, rowL 5 .u8 g B), (34, rowB 0 inv), (37, rowB 0 lo), (1012, outR _ (wantN xs (lf inv) (lf lo) (i + 1)))]
          rw [hws]
          refine ⟨.inl ⟨_, _, rfl, rfl, rfl, OLe.rowL rfl rfl rfl (Nat.le_refl _) IsL.seq⟩, .inl ⟨_, _, rfl, rfl, rfl, ole_rowB rfl rfl rfl (Nat.le_refl _) IsB.self⟩, .inl ⟨_, _, rfl, rfl, rfl, ole_rowB rfl rfl rfl (Nat.le_refl _) IsB.self⟩, .inl ⟨_, _, rfl, rfl, rfl, rfl, rfl, rfl, (by simp [outR]), fun a j ha hj => ?_⟩, trivial⟩
          have ha : a < wn.length + 1 := by simpa [outR] using ha
          dsimp only
          refine VLe.snoc ha (fun h => ?_) fun h => ?_
          · show VLe _ _ _ _ (.pv (cellP ((wn ++ [xs.getD i (0, [])]).getD a (0, [])) j))
            rw [getD_app_lt h]
            exact .same
          · show VLe _ _ _ _ (.pv (cellP ((wn ++ [xs.getD i (0, [])]).getD a (0, [])) j))
            rw [getD_app_eq h]
            match j with
            | 0 => exact .same
            | 1 => exact .same
        · have hb : b = false := hb
          subst hb
          have hws : wantN xs (lf inv) (lf lo) (i + 1) = wn := hws
          conv => whnf
          refine ⟨⟨by unfold inI64; omega⟩, ?_⟩
          conv => whnf
          refine ⟨(i + 1, g3), by show i + 1 ≤ xs.length; omega, SubS.mk [] rfl ?_ ?_, by show xs.length - (i + 1) < xs.length - i; omega⟩
          · refine ⟨⟨_, rfl, .same⟩, ⟨_, rfl, .row _ _ _ _ _ _ _ _ _ rfl rfl rfl rfl⟩, ⟨_, rfl, .row _ _ _ _ _ _ _ _ _ rfl rfl rfl rfl⟩, ⟨_, rfl, .row _ _ _ _ _ _ _ _ _ rfl rfl rfl rfl⟩, ⟨_, rfl, ?_⟩, ⟨_, rfl, .same⟩, trivial⟩
            show VLe _ _ _ _ (.row 1012 _ 2 0 (wantN xs (lf inv) (lf lo) (i + 1)).length)
            rw [hws]
            exact .row _ _ _ _ _ _ _ _ _ rfl rfl rfl rfl
          show AllH _ _ _ [(1300, rowL 5 .u8 g B), (34, rowB 0 inv), (37, rowB 0 lo), (1012, outR _ (wantN xs (lf inv) (lf lo) (i + 1)))]
          rw [hws]
          exact ⟨.inl ⟨_, _, rfl, rfl, rfl, OLe.rowL rfl rfl rfl (Nat.le_refl _) IsL.seq⟩, .inl ⟨_, _, rfl, rfl, rfl, ole_rowB rfl rfl rfl (Nat.le_refl _) IsB.self⟩, .inl ⟨_, _, rfl, rfl, rfl, ole_rowB rfl rfl rfl (Nat.le_refl _) IsB.self⟩, .inl ⟨_, _, rfl, rfl, rfl, rfl, rfl, rfl, Nat.le_refl _, fun i j hi hj => .same⟩, trivial⟩
    · have hc : ¬ (i : Int) < xs.length := of_decide_eq_false hc
      have hin : i = xs.length := by omega
      have hwn : wantN xs (lf inv) (lf lo) i = wantN xs (lf inv) (lf lo) xs.length := by rw [hin]
      rw [hwn]
      have hwl := hwlen xs.length
      have hdec := dec_damaged (lo := lf lo) hxs hF
      have hwo : ∀ x ∈ wantN xs (lf inv) (lf lo) xs.length, x.2.length < 2 ^ 62 := fun x hx => by
        rw [← hdec] at hx
        exact (decS_bd (fun y hy => by
          obtain ⟨k, _, rfl⟩ := List.mem_map.mp hy
          have := dmL_bd (xs := xs) (inv := lf inv) (lo := lf lo) k
          omega)).2 x hx
      generalize wantN xs (lf inv) (lf lo) xs.length = wn at hwl hdec hwo ⊢
      conv => whnf
      have hml : ∀ i, (mixL B (lf inv) (lf lo) N i).length = N := fun i => by simp [mixL]
      have hm0 : mixL B (lf inv) (lf lo) N 0 = B := by
        refine eq_of_getD (by rw [hml, hN]) fun k hk => ?_
        rw [hml] at hk
        rw [mixL_get hk, if_neg (Nat.not_lt_zero k)]
      have hmN : mixL B (lf inv) (lf lo) N N = dmL xs (lf inv) (lf lo) := by
        have hbo : bOf xs = fun k => B.getD k 0 := by unfold bOf; rw [hB]
        unfold mixL dmL
        rw [hbo, show 340 * xs.length = N by omega]
        exact List.map_congr_left fun k hk => by rw [if_pos (List.mem_range.mp hk)]
      refine ex_loop tab_ok mixed (fun i => i ≤ N) (fun i : Nat => mkSt 150 [(6, .row 1300 g 1 0 N), (7, .row 34 0 1 0 N), (8, .row 37 0 1 0 N), (12, .row 1012 g3 2 0 wn.length), (16, i64 i)] [(1300, rowL 5 .u8 g (mixL B (lf inv) (lf lo) N i)), (34, rowB 0 inv), (37, rowB 0 lo), (1012, outR g3 wn)]) (fun i => N - i) 0 (Nat.zero_le _) (SubS.mk [] rfl ?_ ?_) fun i hi => ?_
      · exact ⟨⟨_, rfl, .row _ _ _ _ _ _ _ _ _ rfl rfl rfl rfl⟩, ⟨_, rfl, .row _ _ _ _ _ _ _ _ _ rfl rfl rfl rfl⟩, ⟨_, rfl, .row _ _ _ _ _ _ _ _ _ rfl rfl rfl rfl⟩, ⟨_, rfl, .row _ _ _ _ _ _ _ _ _ rfl rfl rfl rfl⟩, ⟨_, rfl, .same⟩, trivial⟩
      · show AllH _ _ _ [(1300, rowL 5 .u8 g (mixL B (lf inv) (lf lo) N 0)), (34, rowB 0 inv), (37, rowB 0 lo), (1012, outR g3 wn)]
        rw [hm0]
        exact ⟨.inl ⟨_, _, rfl, rfl, rfl, OLe.rowL rfl rfl rfl (Nat.le_refl _) IsL.seq⟩, .inl ⟨_, _, rfl, rfl, rfl, ole_rowB rfl rfl rfl (Nat.le_refl _) IsB.self⟩, .inl ⟨_, _, rfl, rfl, rfl, ole_rowB rfl rfl rfl (Nat.le_refl _) IsB.self⟩, .inl ⟨_, _, rfl, rfl, rfl, rfl, rfl, rfl, Nat.le_refl _, fun i j hi hj => .same⟩, trivial⟩
      have hi : i ≤ N := hi
      conv => whnf
      refine ⟨fun hc => ?_, fun hc => ?_⟩
      · have hc : (i : Int) < N := of_decide_eq_true hc
        have hiN : i < N := by omega
        have hidx : 0 + (i : Int).toNat = i := by omega
        have hmi := hml i
        have hmg : (mixL B (lf inv) (lf lo) N i).getD (0 + (i : Int).toNat) 0 = B.getD i 0 := by rw [hidx, mixL_get hiN, if_neg (Nat.lt_irrefl i)]
        have hms : ∀ v, v = dmB (fun k => B.getD k 0) (lf inv) (lf lo) i → (mixL B (lf inv) (lf lo) N i).set i v = mixL B (lf inv) (lf lo) N (i + 1) := fun v hv => mixL_set hiN hv
        have hm1 : (mixL B (lf inv) (lf lo) N (i + 1)).length = N := hml (i + 1)
        have hbb : 0 ≤ B.getD i 0 ∧ B.getD i 0 < 2 := by rw [hB]; exact bOf_bd (xs := xs) i
        have hd : dmB (fun k => B.getD k 0) (lf inv) (lf lo) i = if lf lo i then 2 else if lf inv i then 1 - B.getD i 0 else B.getD i 0 := rfl
        have hwrap : IntKind.u8.wrap (1 - (mixL B (lf inv) (lf lo) N i).getD (0 + (i : Int).toNat) 0) = 1 - B.getD i 0 := by rw [hmg, w8]; omega
        have hmgi : (mixL B (lf inv) (lf lo) N i).getD i 0 = B.getD i 0 := by rw [← hmg, hidx]
        have hself : (mixL B (lf inv) (lf lo) N i).set i (B.getD i 0) = mixL B (lf inv) (lf lo) N i := by rw [← hmgi]; exact set_getD (by omega)
        generalize mixL B (lf inv) (lf lo) N i = mx at hmi hmg hms hwrap hself ⊢
        have hput8 : ∀ {F : Nat → Nat → AV} {g : Nat → AV} {M : List Int} {v : Int}, M.length = N → IsL F .u8 M → g 0 = .pv (.int .u8 v) → IsL (setCells F (0 + (i : Int).toNat) 0 1 g) .u8 (M.set i v) := fun {F g M v} hM hF hg => by
          rw [hidx]
          exact IsL.put hF (by omega) hg
        conv => whnf
        refine ⟨⟨by omega, by omega, rfl⟩, ?_⟩
        conv => whnf
        refine ⟨⟨rfl, rfl, show 0 + (i : Int).toNat < inv.length by omega, nle rfl⟩, ?_⟩
        conv => whnf
        refine ⟨fun hp => ?_, fun hp => ?_⟩
        · have hp : lf inv i = true := by have hp : inv.getD (0 + (i : Int).toNat) false = true := hp; rw [hidx] at hp; exact hp
          conv => whnf
          refine ⟨⟨by omega, by omega, rfl⟩, ?_⟩
          conv => whnf
          refine ⟨⟨rfl, rfl, show 0 + (i : Int).toNat < mx.length by omega, nle rfl⟩, ?_⟩
          conv => whnf
          refine ⟨⟨by omega, by omega, rfl⟩, ?_⟩
          conv => whnf
          refine ⟨⟨rfl, rfl, show 0 + (i : Int).toNat < mx.length by omega, nle rfl⟩, ?_⟩
          conv => whnf
          refine ⟨⟨by omega, by omega, rfl⟩, ?_⟩
          conv => whnf
          refine ⟨⟨rfl, rfl, show 0 + (i : Int).toNat < lo.length by omega, nle rfl⟩, ?_⟩
          conv => whnf
          refine ⟨fun hq => ?_, fun hq => ?_⟩
          · have hq : lf lo i = true := by have hq : lo.getD (0 + (i : Int).toNat) false = true := hq; rw [hidx] at hq; exact hq
            conv => whnf
            refine ⟨⟨by omega, by omega, rfl⟩, ?_⟩
            conv => whnf
            refine ⟨⟨rfl, rfl, show 0 + (i : Int).toNat < mx.length by omega, nle rfl⟩, ?_⟩
            conv => whnf
            refine ⟨⟨by unfold inI64; omega⟩, ?_⟩
            conv => whnf
            refine ⟨i + 1, by show i + 1 ≤ N; omega, SubS.mk [] rfl ?_ ?_, by show N - (i + 1) < N - i; omega⟩
            · exact ⟨⟨_, rfl, .row _ _ _ _ _ _ _ _ _ rfl rfl rfl rfl⟩, ⟨_, rfl, .row _ _ _ _ _ _ _ _ _ rfl rfl rfl rfl⟩, ⟨_, rfl, .row _ _ _ _ _ _ _ _ _ rfl rfl rfl rfl⟩, ⟨_, rfl, .row _ _ _ _ _ _ _ _ _ rfl rfl rfl rfl⟩, ⟨_, rfl, .same⟩, trivial⟩
            · refine ⟨.inl ⟨_, _, rfl, rfl, rfl, OLe.rowL rfl rfl rfl (show (mixL B (lf inv) (lf lo) N (i + 1)).length ≤ mx.length by rw [hml]; omega) ?_⟩, .inl ⟨_, _, rfl, rfl, rfl, ole_rowB rfl rfl rfl (Nat.le_refl _) IsB.self⟩, .inl ⟨_, _, rfl, rfl, rfl, ole_rowB rfl rfl rfl (Nat.le_refl _) IsB.self⟩, .inl ⟨_, _, rfl, rfl, rfl, rfl, rfl, rfl, Nat.le_refl _, fun i j hi hj => .same⟩, trivial⟩
              try dsimp only
              rw [← hms 2 (by rw [hd, hq]; rfl), show mx.set i 2 = (mx.set i (1 - B.getD i 0)).set i 2 by rw [List.set_set]]
              exact hput8 (by simp [hmi]) (hput8 hmi IsL.seq (by rw [hwrap])) rfl
          · have hq : lf lo i = false := by have hq : lo.getD (0 + (i : Int).toNat) false = false := hq; rw [hidx] at hq; exact hq
            conv => whnf
            refine ⟨⟨by unfold inI64; omega⟩, ?_⟩
            conv => whnf
            refine ⟨i + 1, by show i + 1 ≤ N; omega, SubS.mk [] rfl ?_ ?_, by show N - (i + 1) < N - i; omega⟩
            · exact ⟨⟨_, rfl, .row _ _ _ _ _ _ _ _ _ rfl rfl rfl rfl⟩, ⟨_, rfl, .row _ _ _ _ _ _ _ _ _ rfl rfl rfl rfl⟩, ⟨_, rfl, .row _ _ _ _ _ _ _ _ _ rfl rfl rfl rfl⟩, ⟨_, rfl, .row _ _ _ _ _ _ _ _ _ rfl rfl rfl rfl⟩, ⟨_, rfl, .same⟩, trivial⟩
            · refine ⟨.inl ⟨_, _, rfl, rfl, rfl, OLe.rowL rfl rfl rfl (show (mixL B (lf inv) (lf lo) N (i + 1)).length ≤ mx.length by rw [hml]; omega) ?_⟩, .inl ⟨_, _, rfl, rfl, rfl, ole_rowB rfl rfl rfl (Nat.le_refl _) IsB.self⟩, .inl ⟨_, _, rfl, rfl, rfl, ole_rowB rfl rfl rfl (Nat.le_refl _) IsB.self⟩, .inl ⟨_, _, rfl, rfl, rfl, rfl, rfl, rfl, Nat.le_refl _, fun i j hi hj => .same⟩, trivial⟩
              try dsimp only
              rw [← hms (1 - B.getD i 0) (by rw [hd, hq, hp]; rfl)]
              exact hput8 hmi IsL.seq (by rw [hwrap])
        · have hp : lf inv i = false := by have hp : inv.getD (0 + (i : Int).toNat) false = false := hp; rw [hidx] at hp; exact hp
          conv => whnf
          refine ⟨⟨by omega, by omega, rfl⟩, ?_⟩
          conv => whnf
          refine ⟨⟨rfl, rfl, show 0 + (i : Int).toNat < lo.length by omega, nle rfl⟩, ?_⟩
          conv => whnf
          refine ⟨fun hq => ?_, fun hq => ?_⟩
          · have hq : lf lo i = true := by have hq : lo.getD (0 + (i : Int).toNat) false = true := hq; rw [hidx] at hq; exact hq
            conv => whnf
            refine ⟨⟨by omega, by omega, rfl⟩, ?_⟩
            conv => whnf
            refine ⟨⟨rfl, rfl, show 0 + (i : Int).toNat < mx.length by omega, nle rfl⟩, ?_⟩
            conv => whnf
            refine ⟨⟨by unfold inI64; omega⟩, ?_⟩
            conv => whnf
            refine ⟨i + 1, by show i + 1 ≤ N; omega, SubS.mk [] rfl ?_ ?_, by show N - (i + 1) < N - i; omega⟩
            · exact ⟨⟨_, rfl, .row _ _ _ _ _ _ _ _ _ rfl rfl rfl rfl⟩, ⟨_, rfl, .row _ _ _ _ _ _ _ _ _ rfl rfl rfl rfl⟩, ⟨_, rfl, .row _ _ _ _ _ _ _ _ _ rfl rfl rfl rfl⟩, ⟨_, rfl, .row _ _ _ _ _ _ _ _ _ rfl rfl rfl rfl⟩, ⟨_, rfl, .same⟩, trivial⟩
            · refine ⟨.inl ⟨_, _, rfl, rfl, rfl, OLe.rowL rfl rfl rfl (show (mixL B (lf inv) (lf lo) N (i + 1)).length ≤ mx.length by rw [hml]; omega) ?_⟩, .inl ⟨_, _, rfl, rfl, rfl, ole_rowB rfl rfl rfl (Nat.le_refl _) IsB.self⟩, .inl ⟨_, _, rfl, rfl, rfl, ole_rowB rfl rfl rfl (Nat.le_refl _) IsB.self⟩, .inl ⟨_, _, rfl, rfl, rfl, rfl, rfl, rfl, Nat.le_refl _, fun i j hi hj => .same⟩, trivial⟩
              try dsimp only
              rw [← hms 2 (by rw [hd, hq]; rfl)]
              exact hput8 hmi IsL.seq rfl
          · have hq : lf lo i = false := by have hq : lo.getD (0 + (i : Int).toNat) false = false := hq; rw [hidx] at hq; exact hq
            conv => whnf
            refine ⟨⟨by unfold inI64; omega⟩, ?_⟩
            conv => whnf
            refine ⟨i + 1, by show i + 1 ≤ N; omega, SubS.mk [] rfl ?_ ?_, by show N - (i + 1) < N - i; omega⟩
            · exact ⟨⟨_, rfl, .row _ _ _ _ _ _ _ _ _ rfl rfl rfl rfl⟩, ⟨_, rfl, .row _ _ _ _ _ _ _ _ _ rfl rfl rfl rfl⟩, ⟨_, rfl, .row _ _ _ _ _ _ _ _ _ rfl rfl rfl rfl⟩, ⟨_, rfl, .row _ _ _ _ _ _ _ _ _ rfl rfl rfl rfl⟩, ⟨_, rfl, .same⟩, trivial⟩
            · refine ⟨.inl ⟨_, _, rfl, rfl, rfl, OLe.rowL rfl rfl rfl (show (mixL B (lf inv) (lf lo) N (i + 1)).length ≤ mx.length by rw [hml]; omega) ?_⟩, .inl ⟨_, _, rfl, rfl, rfl, ole_rowB rfl rfl rfl (Nat.le_refl _) IsB.self⟩, .inl ⟨_, _, rfl, rfl, rfl, ole_rowB rfl rfl rfl (Nat.le_refl _) IsB.self⟩, .inl ⟨_, _, rfl, rfl, rfl, rfl, rfl, rfl, Nat.le_refl _, fun i j hi hj => .same⟩, trivial⟩
              try dsimp only
              rw [← hms (B.getD i 0) (by rw [hd, hq, hp]; rfl), hself]
              exact IsL.seq
      · have hc : ¬ (i : Int) < N := of_decide_eq_false hc
        have hiN : mixL B (lf inv) (lf lo) N i = dmL xs (lf inv) (lf lo) := by rw [show i = N by omega]; exact hmN
        rw [hiN]
        have hdl : (dmL xs (lf inv) (lf lo)).length = N := by rw [← hmN, hml]
        have hdb : ∀ y ∈ dmL xs (lf inv) (lf lo), 0 ≤ y ∧ y < 256 := fun y hy => by
          obtain ⟨k, _, rfl⟩ := List.mem_map.mp hy
          have := dmL_bd (xs := xs) (inv := lf inv) (lo := lf lo) k
          omega
        have hc21 := f21 (dmL xs (lf inv) (lf lo)) (by omega) hdb
        rw [hdec] at hc21
        generalize dmL xs (lf inv) (lf lo) = D at hdl hc21 ⊢
        conv => whnf
        refine CallK.drop [1300] hc21 ⟨.frz0 _ rfl rfl rfl rfl rfl (show N ≤ D.length by omega) (by omega) IsL.seq, trivial⟩ ?_
        conv => whnf
        refine CallK.flat [1012] (f20 wn wn (by omega) (by omega) hwo hwo) ⟨.same, .frz _ _ _ _ _ _ _ _ rfl rfl rfl rfl (by simp [outR]) fun a j ha hj => ?_, trivial⟩ rfl ?_
        · rw [Nat.zero_add]
          exact .same
        rw [decide_eq_true (rfl : wn = wn)]
        conv => whnf
        repeat (refine ⟨fun _ => ?_, fun h => Bool.noConfusion h⟩; conv => whnf)
        refine CallK.flat [] awake trivial rfl ?_
        conv => whnf
        exact done_bool _ _ rfl rfl rfl
end Go.Proofs.Ytncmpjpmcliomaa
