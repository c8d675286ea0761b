/- Part of the proof: what the functions that the law calls compute (9). -/
import Derived.Test.YtioccpodnkllfaaV8
namespace Go.AM
open Go Go.RowKit
theorem RdT.struct4 {P : Program} {t : TypeId} {α β γ δ : Type} {f0 f1 f2 f3 : Field} {pv0 : α → Nat → PV} {pv1 : β → Nat → PV} {pv2 : γ → Nat → PV} {pv3 : δ → Nat → PV} {ok0 : α → Prop} {ok1 : β → Prop} {ok2 : γ → Prop} {ok3 : δ → Prop} (ht : P.underlying t = some (.struct #[f0, f1, f2, f3]))
    (ho0 : f0.offset = 0) (ho1 : f1.offset = 1) (ho2 : f2.offset = 2) (ho3 : f3.offset = 3) (hc0 : P.cellsOf f0.type = 1) (hc1 : P.cellsOf f1.type = 1) (hc2 : P.cellsOf f2.type = 1) (hc3 : P.cellsOf f3.type = 1) (hct : P.cellsOf t = 4)
    (h0 : RdT P f0.type 1 pv0 ok0) (h1 : RdT P f1.type 1 pv1 ok1) (h2 : RdT P f2.type 1 pv2 ok2) (h3 : RdT P f3.type 1 pv3 ok3) :
    RdT P t 4 (fun (a : α × β × γ × δ) j => match j with | 0 => pv0 a.1 0 | 1 => pv1 a.2.1 0 | 2 => pv2 a.2.2.1 0 | _ => pv3 a.2.2.2 0) (fun a => ok0 a.1 ∧ ok1 a.2.1 ∧ ok2 a.2.2.1 ∧ ok3 a.2.2.2) := by
  intro H enc w sp fuel cs x h hwt
  obtain ⟨xs, k, _, rfl, hlen, hxl, hf⟩ := DataW.trod_struct ht h
  have hl2 : xs.length = 4 := hxl
  match xs, hl2 with
  | [x0, x1, x2, x3], _ =>
  have hws : DataW.weights P t (.agg ([x0, x1, x2, x3].map (·.1))) = DataW.weights P f0.type x0.1 ++ (DataW.weights P f1.type x1.1 ++ (DataW.weights P f2.type x2.1 ++ (DataW.weights P f3.type x3.1 ++ []))) := by
    simp only [DataW.weights, ht, List.map, DataW.weightsEach]
  dsimp only at hwt
  rw [hws] at hwt
  have g0 := hf 0 f0 rfl
  have g1 := hf 1 f1 rfl
  have g2 := hf 2 f2 rfl
  have g3 := hf 3 f3 rfl
  rw [ho0, hc0] at g0
  rw [ho1, hc1] at g1
  rw [ho2, hc2] at g2
  rw [ho3, hc3] at g3
  obtain ⟨_, a, k1, k2⟩ := h0 H enc w sp k _ x0 g0 fun q hq => hwt q (by simp only [List.mem_append]; exact .inl hq)
  obtain ⟨_, b, k3, k4⟩ := h1 H enc w sp k _ x1 g1 fun q hq => hwt q (by simp only [List.mem_append]; exact .inr (.inl hq))
  obtain ⟨_, c, k5, k6⟩ := h2 H enc w sp k _ x2 g2 fun q hq => hwt q (by simp only [List.mem_append]; exact .inr (.inr (.inl hq)))
  obtain ⟨_, d, k7, k8⟩ := h3 H enc w sp k _ x3 g3 fun q hq => hwt q (by simp only [List.mem_append]; exact .inr (.inr (.inr (.inl hq))))
  refine ⟨by rw [hlen, hct], (a, b, c, d), ⟨k1, k3, k5, k7⟩, fun j hj => ?_⟩
  have q0 := k2 0 (by decide)
  have q1 := k4 0 (by decide)
  have q2 := k6 0 (by decide)
  have q3 := k8 0 (by decide)
  rw [drop_take_getD (by decide)] at q0 q1 q2 q3
  match j, hj with
  | 0, _ => exact q0
  | 1, _ => exact q1
  | 2, _ => exact q2
  | 3, _ => exact q3
end Go.AM

namespace Go.Proofs.Ytioccpodnkllfaa
open Go Go.AM
attribute [local irreducible] AWP CallK PureCall SubS HeapCall HeapCallP HeapCallK
theorem res_two {s i k : Nat} (hi : i < 16) (hk : k < 16) (h : i ≠ k) : res (s ^^^ 2 ^ i ^^^ 2 ^ k) ≠ res s := by
  intro he
  have h1 := lo_lt s
  have h2 := lo_lt (s ^^^ 2 ^ i ^^^ 2 ^ k)
  have hb : ∀ t, t < 15 → (lo (s ^^^ 2 ^ i ^^^ 2 ^ k)).testBit t = ((s.testBit t != decide (i = t)) != decide (k = t)) ∧ (lo s).testBit t = s.testBit t := fun t ht => by
    rw [lo_bit, lo_bit, decide_eq_true ht, Bool.true_and, Bool.true_and, Nat.testBit_xor, Nat.testBit_xor, Nat.testBit_two_pow, Nat.testBit_two_pow]
    exact ⟨rfl, rfl⟩
  unfold res at he
  have hcase : lo (s ^^^ 2 ^ i ^^^ 2 ^ k) = lo s ∨ (lo (s ^^^ 2 ^ i ^^^ 2 ^ k) = 0 ∧ lo s = 32767) ∨ (lo (s ^^^ 2 ^ i ^^^ 2 ^ k) = 32767 ∧ lo s = 0) := by omega
  have hfree : ∃ t, t < 3 ∧ i ≠ t ∧ k ≠ t := by
    by_cases a0 : i ≠ 0 ∧ k ≠ 0
    · exact ⟨0, by decide, a0⟩
    · by_cases a1 : i ≠ 1 ∧ k ≠ 1
      · exact ⟨1, by decide, a1⟩
      · exact ⟨2, by decide, by omega, by omega⟩
  rcases hcase with hc | hc
  · by_cases hi15 : i < 15
    · obtain ⟨g1, g2⟩ := hb i hi15
      rw [hc, g2, decide_eq_true rfl, decide_eq_false (fun e => h e.symm)] at g1
      revert g1
      cases s.testBit i <;> decide
    · obtain ⟨g1, g2⟩ := hb k (by omega)
      rw [hc, g2, decide_eq_true rfl, decide_eq_false h] at g1
      revert g1
      cases s.testBit k <;> decide
  · obtain ⟨t, ht, hti, htk⟩ := hfree
    obtain ⟨g1, g2⟩ := hb t (by omega)
    rw [decide_eq_false hti, decide_eq_false htk, Bool.bne_false, Bool.bne_false, ← g2] at g1
    have e0 : ∀ t, t < 3 → Nat.testBit 0 t = false ∧ Nat.testBit 32767 t = true := by decide
    rcases hc with ⟨c1, c2⟩ | ⟨c1, c2⟩
    · rw [c1, c2, (e0 t ht).1, (e0 t ht).2] at g1; cases g1
    · rw [c1, c2, (e0 t ht).1, (e0 t ht).2] at g1; cases g1
theorem two_odd {s i k : Nat} (hi : i < 16) (hk : k < 16) (hs : oddF s 16 = true) : oddF (s ^^^ 2 ^ i ^^^ 2 ^ k) 16 = true := by
  rw [odd_flip, if_pos hk, odd_flip, if_pos hi, hs]; rfl
theorem two_word_lt {s i k : Nat} (hs : s < 65536) (hi : i < 16) (hk : k < 16) : s ^^^ 2 ^ i ^^^ 2 ^ k < 65536 :=
  Nat.xor_lt_two_pow (n := 16) (Nat.xor_lt_two_pow (n := 16) hs (Nat.pow_lt_pow_right (by decide) hi)) (Nat.pow_lt_pow_right (by decide) hk)
theorem bank_bad {L : List Nat} {a : Nat} {b : BankR} {last : Int} {R : List Nat} (h : L.drop a = bankBy b ++ R) (h1 : 0 ≤ b.num ∧ b.num ≤ 35) (h2 : b.ws.length ≤ 1024) (h3 : ∀ w ∈ b.ws, w ≤ 32767) (hs : sealedB b = false) (hl : last < b.num) : bankA L a last = .error (a, 10) := by
  have hb : L.drop a = two b.num.toNat ++ (two b.ws.length ++ (twos b.ws ++ R)) := by rw [h]; unfold bankBy; simp only [List.append_assoc]
  obtain ⟨g1, g2, g3⟩ := word_fwd (m := 35) hb (by omega) (by omega)
  obtain ⟨q1, q2, q3⟩ := word_fwd (m := 1024) g3 (by omega) (by omega)
  have hw := words_fwd b.ws (a + 2 + 2) [] R q3 h3
  have e : ((b.num.toNat : Nat) : Int) = b.num := by omega
  unfold bankA
  rw [g1]
  dsimp only
  rw [g2, e, if_neg (by omega), q1]
  dsimp only
  rw [q2, show a + 4 = a + 2 + 2 from rfl, hw]
  dsimp only
  rw [List.nil_append, show (⟨b.num, b.ws⟩ : BankR) = b from rfl, hs, if_pos rfl]
theorem banks_bad {L : List Nat} {b c : BankR} {post : List BankR} (hc : b.num = c.num) (h1 : 0 ≤ b.num ∧ b.num ≤ 35) (h2 : b.ws.length ≤ 1024) (h3 : ∀ w ∈ b.ws, w ≤ 32767) (hs : sealedB b = false) : ∀ (pre : List BankR) (a : Nat) (last : Int) (acc : List BankR) (R : List Nat),
    L.drop a = pre.flatMap bankBy ++ (bankBy b ++ R) → packE (pre ++ c :: post) last = 0 → banksA L a (pre ++ c :: post).length last acc = .error (a + (pre.flatMap bankBy).length, 10)
  | [], a, last, acc, R, h, hp => by
    rw [List.nil_append] at hp ⊢
    obtain ⟨⟨_, hl⟩, _⟩ := packE_cons.mp hp
    rw [List.length_cons, banksA, bank_bad (R := R) h h1 h2 h3 hs (by omega)]
    rfl
  | d :: pre, a, last, acc, R, h, hp => by
    rw [List.cons_append] at hp ⊢
    obtain ⟨⟨h4, h5⟩, h6⟩ := packE_cons.mp hp
    have hd : L.drop a = bankBy d ++ (pre.flatMap bankBy ++ (bankBy b ++ R)) := by rw [h, List.flatMap_cons, List.append_assoc]
    obtain ⟨g1, g2⟩ := bank_fwd hd h4 h5
    rw [List.length_cons, banksA, g1]
    dsimp only
    rw [banks_bad hc h1 h2 h3 hs pre _ _ _ R g2 h6, List.flatMap_cons, List.length_append, Nat.add_assoc]
theorem unpack_bad {pre post : List BankR} {b c : BankR} (hl : (pre ++ c :: post).length ≤ 36) (hc : b.num = c.num) (h1 : 0 ≤ b.num ∧ b.num ≤ 35) (h2 : b.ws.length ≤ 1024) (h3 : ∀ w ∈ b.ws, w ≤ 32767) (hs : sealedB b = false) (hp : packE (pre ++ c :: post) (-1) = 0) :
    unpackA (packB (pre ++ b :: post)) = .error (6 + (pre.flatMap bankBy).length, 10) := by
  have hn : (pre ++ b :: post).length = (pre ++ c :: post).length := by simp
  have hd4 : (packB (pre ++ b :: post)).drop 4 = two (pre ++ c :: post).length ++ (pre.flatMap bankBy ++ (bankBy b ++ post.flatMap bankBy)) := by
    unfold packB
    rw [hn, List.flatMap_append, List.flatMap_cons]
    simp only [List.append_assoc]
    exact List.drop_left (l₁ := magicL)
  obtain ⟨g1, g2, g3⟩ := word_fwd (m := 36) hd4 (by omega) hl
  have hb := banks_bad (post := post) hc h1 h2 h3 hs pre 6 (-1) [] _ g3 hp
  unfold unpackA
  rw [mag_fwd (L := packB (pre ++ b :: post)) (R := two (pre ++ b :: post).length ++ (pre ++ b :: post).flatMap bankBy) (by unfold packB; simp only [List.append_assoc]), g1]
  dsimp only
  rw [g2, hb]
/-- The word that was written at a place of a bank, and what stands there when two bits are inverted. -/
theorem set_two {A C : List Nat} {x0 y0 x y w : Nat} (hw : w = A.length) : ((A ++ ([x0, y0] ++ C)).set w x).set (w + 1) y = A ++ ([x, y] ++ C) := by
  subst hw
  rw [List.set_append_right _ _ (Nat.le_refl _), Nat.sub_self, List.set_append_right _ _ (by omega), show A.length + 1 - A.length = 1 by omega]
  rfl
theorem twos_app (a b : List Nat) : twos (a ++ b) = twos a ++ twos b := List.flatMap_append
theorem two_bits {l : List BankR} (hl : l.length ≤ 36) (hp : packE l (-1) = 0) {n q i k : Nat} (hn : n < l.length) (hq : q < (l.getD n b0).ws.length) (hi : i < 16) (hk : k < 16) (hik : i ≠ k) {w s : Nat} (hw : w = 6 + ((l.take n).flatMap bankBy).length + 4 + 2 * q) (hs : s = wordS (packB l) w) :
    w + 1 < (packB l).length ∧ s < 65536 ∧ oddF (s ^^^ 2 ^ i ^^^ 2 ^ k) 16 = true ∧ unpackA (((packB l).set w ((s ^^^ 2 ^ i ^^^ 2 ^ k) / 256)).set (w + 1) ((s ^^^ 2 ^ i ^^^ 2 ^ k) % 256)) = .error (6 + ((l.take n).flatMap bankBy).length, 10) := by
  obtain ⟨c, hc⟩ : ∃ c, c = l.getD n b0 := ⟨_, rfl⟩
  rw [← hc] at hq
  have hsplit : l = l.take n ++ c :: l.drop (n + 1) := by
    have h1 := (List.take_append_drop n l).symm
    rw [drop_getD (d := b0) hn, ← hc] at h1
    exact h1
  obtain ⟨pre, hpre⟩ : ∃ pre, pre = l.take n := ⟨_, rfl⟩
  obtain ⟨post, hpost⟩ : ∃ post, post = l.drop (n + 1) := ⟨_, rfl⟩
  rw [← hpre, ← hpost] at hsplit
  rw [← hpre] at hw ⊢
  have hcm : sealedB c = true := by
    have key : ∀ (pre : List BankR) (last : Int), packE (pre ++ c :: post) last = 0 → sealedB c = true := by
      intro pre
      induction pre with
      | nil => intro last h; exact (packE_cons.mp h).1.1
      | cons d pre ih => intro last h; exact ih _ (packE_cons.mp h).2
    rw [hsplit] at hp
    exact key _ _ hp
  obtain ⟨c1, c2, c3, c4⟩ := (sealedB_iff c).mp hcm
  obtain ⟨v, hv⟩ : ∃ v, v = c.ws.getD q 0 := ⟨_, rfl⟩
  have hws : c.ws = c.ws.take q ++ ([v] ++ c.ws.drop (q + 1)) := by
    have h1 := (List.take_append_drop q c.ws).symm
    rw [drop_getD (d := 0) hq, ← hv] at h1
    exact h1
  have hvl : v ≤ 32767 := by
    have : v ∈ c.ws := by rw [hws]; simp
    exact c3 v this
  obtain ⟨A, hA⟩ : ∃ A, A = magicL ++ two l.length ++ (pre.flatMap bankBy ++ (two c.num.toNat ++ two c.ws.length ++ twos (c.ws.take q))) := ⟨_, rfl⟩
  obtain ⟨C, hC⟩ : ∃ C, C = twos (c.ws.drop (q + 1)) ++ post.flatMap bankBy := ⟨_, rfl⟩
  have hlen : A.length = w := by
    rw [hA, hw]
    simp only [List.length_append, twos_len, List.length_take, two, magicL, List.length_cons, List.length_nil]
    omega
  have hform : ∀ u, packB (pre ++ ⟨c.num, c.ws.take q ++ ([u] ++ c.ws.drop (q + 1))⟩ :: post) = A ++ (two u ++ C) := fun u => by
    have hn1 : (pre ++ (⟨c.num, c.ws.take q ++ ([u] ++ c.ws.drop (q + 1))⟩ : BankR) :: post).length = l.length := by rw [hsplit]; simp
    have hl1 : (c.ws.take q ++ ([u] ++ c.ws.drop (q + 1))).length = c.ws.length := by
      rw [List.length_append, List.length_append, List.length_take, List.length_drop]; simp; omega
    unfold packB
    rw [hn1, List.flatMap_append, List.flatMap_cons, hA, hC]
    unfold bankBy
    dsimp only
    rw [hl1, twos_app, twos_app, show twos [u] = two u from List.append_nil _]
    simp only [List.append_assoc]
  have hL : packB l = A ++ (two v ++ C) := by
    have e := hform v
    rw [← hws, show (⟨c.num, c.ws⟩ : BankR) = c from rfl, ← hsplit] at e
    exact e
  have hput : s = putW v := by
    have hd : (packB l).drop w = two v ++ C := by rw [hL, ← hlen]; exact List.drop_left
    have h0 := getD_drop' hd 0 (show 0 < 2 by decide)
    have h1 := getD_drop' hd 1 (show 1 < 2 by decide)
    rw [Nat.add_zero] at h0
    rw [hs]
    unfold wordS
    rw [h0, h1]
    show putW v / 256 * 256 + putW v % 256 = putW v
    omega
  have hs16 : s < 65536 := by rw [hput]; exact putW_lt v
  have hodd := two_odd (s := s) hi hk (by rw [hput]; exact putW_odd v)
  obtain ⟨s', hs'⟩ : ∃ s', s' = s ^^^ 2 ^ i ^^^ 2 ^ k := ⟨_, rfl⟩
  have hs'l : s' < 65536 := by rw [hs']; exact two_word_lt hs16 hi hk
  have hres : res s' ≠ res s := by rw [hs']; exact res_two hi hk hik
  rw [← hs'] at hodd ⊢
  have htwo : two (lo s') = [s' / 256, s' % 256] := by unfold two; rw [putW_of hs'l hodd]
  refine ⟨by rw [hL, List.length_append, List.length_append, hlen]; show w + 1 < w + (2 + C.length); omega, hs16, hodd, ?_⟩
  have hset : ((packB l).set w (s' / 256)).set (w + 1) (s' % 256) = packB (pre ++ ⟨c.num, c.ws.take q ++ ([lo s'] ++ c.ws.drop (q + 1))⟩ :: post) := by
    rw [hform, htwo, hL]
    exact set_two hlen.symm
  rw [hset]
  have hlo : lo s' < 32768 := lo_lt s'
  refine unpack_bad (c := c) (by rw [← hsplit]; exact hl) rfl c1 ?_ ?_ ?_ (by rw [← hsplit]; exact hp)
  · dsimp only
    rw [List.length_append, List.length_append, List.length_take, List.length_drop]
    simp; omega
  · intro y hy
    dsimp only at hy
    rcases List.mem_append.mp hy with hy | hy
    · exact c3 y (List.mem_of_mem_take hy)
    · rcases List.mem_append.mp hy with hy | hy
      · rw [List.mem_singleton] at hy; omega
      · exact c3 y (List.mem_of_mem_drop hy)
  · cases hz : sealedB ⟨c.num, c.ws.take q ++ ([lo s'] ++ c.ws.drop (q + 1))⟩ with
    | false => rfl
    | true =>
      exfalso
      have h4 := ((sealedB_iff _).mp hz).2.2.2
      dsimp only at h4
      rw [hws, tot_app, tot_app, show tot [v] = res v from Nat.add_zero _] at c4
      rw [tot_app, tot_app, show tot [lo s'] = res (lo s') from Nat.add_zero _] at h4
      have r1 : res (lo s') = res s' := by unfold res; rw [lo_lo]
      have r2 : res v = res s := by rw [hput]; unfold res; rw [putW_lo]
      have := res_lt s'
      have := res_lt s
      rw [r1] at h4
      rw [r2] at c4
      omega
end Go.Proofs.Ytioccpodnkllfaa

namespace Go.Proofs.Ytioccpodnkllfaa
open Go Go.AM
attribute [local irreducible] AWP CallK PureCall SubS HeapCall HeapCallP HeapCallK
def u8 (n : Int) : AV := .pv (.int .u8 n)
def p4L (a b c d : Nat) : Nat → AV := getL [u16 a, u16 b, u8 c, u8 d]
def p4O (a b c d : Nat) : AO := ⟨57, 0, 4, 1, fun _ j => p4L a b c d j⟩
theorem p4Le {H : Heap} {B : List Nat} {U : List (Nat × Nat)} {o : AO} {a b c d : Nat} (e1 : o.E = 57) (e2 : o.gen = 0) (e3 : o.sz = 4) (e4 : o.n = 1) (h : ∀ j, j < 4 → VLe H B U (o.f 0 j) (p4L a b c d j)) : OLe H B U o (p4O a b c d) :=
  ⟨e1.symm, e2.symm, e3.symm, Nat.le_of_eq e4.symm, fun i j hi hj => by
    have hi0 : i = 0 := Nat.lt_one_iff.mp hi
    subst hi0
    rw [e3] at hj
    exact h j hj⟩
theorem mod16 (n : Nat) (h : n < 256) : (IntKind.i64.wrap (n : Int)).tmod 16 = ((n % 16 : Nat) : Int) := by
  rw [wi64 (by omega) (by omega), Int.tmod_eq_emod_of_nonneg (by omega)]; omega
theorem modN (n m : Nat) (h : n < 65536) : (IntKind.i64.wrap (n : Int)).tmod (m : Int) = ((n % m : Nat) : Int) := by
  rw [wi64 (by omega) (by omega), Int.tmod_eq_emod_of_nonneg (by omega)]; exact (Int.natCast_emod _ _).symm
theorem p4v {H : Heap} {B : List Nat} {U : List (Nat × Nat)} {a b c d j : Nat} (hj : j < 4) : VLe H B U (p4L a b c d j) (p4L a b c d j) :=
  match j, hj with
  | 0, _ => .same
  | 1, _ => .same
  | 2, _ => .same
  | 3, _ => .same
def off (X : List BankR) (j : Nat) : Nat := ((X.take j).flatMap bankBy).length
theorem off_sn {X : List BankR} {j : Nat} (h : j < X.length) : off X (j + 1) = off X j + (4 + 2 * (X.getD j b0).ws.length) := by
  unfold off
  rw [take_sn (d := b0) h, List.flatMap_append, List.length_append]
  show _ + ([X.getD j b0].flatMap bankBy).length = _
  rw [show [X.getD j b0].flatMap bankBy = bankBy (X.getD j b0) from List.append_nil _, bankBy_len]
theorem word_mk {L : List Nat} (hB : BtB L) (w i k : Nat) (hi : i = w) (hk : k = w + 1) : IntKind.u16.wrap (IntKind.u16.wrap (IntKind.u16.wrap ((L.getD i 0 : Nat) : Int) * 256) + IntKind.u16.wrap ((L.getD k 0 : Nat) : Int)) = ((wordS L w : Nat) : Int) := by
  subst hi; subst hk
  have h0 := btB hB i
  have h1 := btB hB (i + 1)
  unfold wordS
  rw [wn16 (n := ((L.getD i 0 : Nat) : Int)) (by omega) (by omega), wn16 (n := ((L.getD (i + 1) 0 : Nat) : Int)) (by omega) (by omega), wn16 (n := ((L.getD i 0 : Nat) : Int) * 256) (by omega) (by omega), wn16 (by omega) (by omega)]
  omega
theorem shl16 {i : Nat} (h : i < 16) : IntKind.u16.wrap (1 * 2 ^ min ((i : Nat) : Int).toNat IntKind.u16.bits) = ((2 ^ i : Nat) : Int) := by
  have hp : 2 ^ i < 65536 := Nat.pow_lt_pow_right (a := 2) (n := 16) (by decide) h
  have e2 : (2 : Int) ^ i = ((2 ^ i : Nat) : Int) := by simp
  rw [Int.toNat_natCast, Nat.min_eq_left (by show i ≤ 16; omega), Int.one_mul, e2]
  exact wn16 (Int.natCast_nonneg _) (show ((2 ^ i : Nat) : Int) < ((65536 : Nat) : Int) from Int.ofNat_lt.mpr hp)
theorem two_xor {s i k : Nat} (hs : s < 65536) (hi : i < 16) (hk : k < 16) : bitsOf .xor .u16 (bitsOf .xor .u16 (s : Int) (IntKind.u16.wrap (1 * 2 ^ min ((i : Nat) : Int).toNat IntKind.u16.bits))) (IntKind.u16.wrap (1 * 2 ^ min ((k : Nat) : Int).toNat IntKind.u16.bits)) = ((s ^^^ 2 ^ i ^^^ 2 ^ k : Nat) : Int) := by
  rw [shl16 hi, shl16 hk]
  have e := xor_nat (k := .u16) rfl (a := s) (b := 2 ^ i) hs (Nat.pow_lt_pow_right (a := 2) (n := 16) (by decide) hi)
  rw [e]
  exact xor_nat (k := .u16) rfl (Nat.xor_lt_two_pow (n := 16) hs (Nat.pow_lt_pow_right (by decide) hi)) (Nat.pow_lt_pow_right (a := 2) (n := 16) (by decide) hk)
set_option maxHeartbeats 4000000 in
theorem f12 (l : List BankR) (h : BsB l) (a b c d : Nat) (ha : a < 65536) (hb : b < 65536) (hc : c < 256) (hd : d < 256) : PureCall Try.prog 12 [.pv (banksP l), .agg 4 (p4L a b c d)] (bb true) := by
  obtain ⟨hB, hL1, hL2⟩ := packB_some l
  have hX36 := someL_len l
  have hXp := someL_pack l
  have hXm := fun y => @someL_mem l y
  refine PureCall.body tab_ok (by kernel_rfl) Try.func12 rfl rfl rfl ?_
  refine awp_piece tab_ok mixed ?_
  conv => whnf
  repeat (first | ((with_reducible first | apply ga | apply gb | apply gc | apply gd | apply ge | apply gf | apply gg | apply gh | apply gi | apply gj); conv => whnf) | (refine ⟨⟨rfl, rfl, nle rfl, nle rfl⟩, ?_⟩; conv => whnf) | (refine AD.plain rfl ?_; conv => whnf) | fail)
  refine awp_piece tab_ok mixed ?_
  conv => whnf
  repeat (first | ((with_reducible first | apply ga | apply gb | apply gc | apply gd | apply ge | apply gf | apply gg | apply gh | apply gi | apply gj); conv => whnf) | (refine ⟨⟨rfl, rfl, nle rfl, nle rfl⟩, ?_⟩; conv => whnf) | (refine AD.plain rfl ?_; conv => whnf) | fail)
  refine CallK.drop [] (f29 l h) ⟨.same, trivial⟩ ?_
  conv => whnf
  repeat (first | ((with_reducible first | apply ga | apply gb | apply gc | apply gd | apply ge | apply gf | apply gg | apply gh | apply gi | apply gj); conv => whnf) | (refine ⟨⟨rfl, rfl, nle rfl, nle rfl⟩, ?_⟩; conv => whnf) | (refine AD.plain rfl ?_; conv => whnf) | fail)
  refine awp_pieceX tab_ok mixed (α := Nat) (fun g => mkSt 154 [(3, .ptr 3 0 4 0 0), (5, .pv (banksP (someL l))), (6, .row 2200 g 1 0 (packB (someL l)).length), (7, i64 0)] [(3, p4O a b c d), (2200, rowA 5 1 bcell 0 g (packB (someL l)))]) (fun _ => True) (fun K hK => ?_) ?_
  · conv => whnf
    repeat (first | ((with_reducible first | apply ga | apply gb | apply gc | apply gd | apply ge | apply gf | apply gg | apply gh | apply gi | apply gj); conv => whnf) | (refine ⟨⟨rfl, rfl, nle rfl, nle rfl⟩, ?_⟩; conv => whnf) | (refine AD.plain rfl ?_; conv => whnf) | fail)
    refine CallK.heap (f25h (someL l) (someL_bs l) (by omega) (someL_pack l)) [] [] rfl rfl ⟨.same, trivial⟩ trivial 2000 rfl ?_
    rintro _ _ ⟨g, rfl, rfl⟩
    conv => whnf
    repeat (first | ((with_reducible first | apply ga | apply gb | apply gc | apply gd | apply ge | apply gf | apply gg | apply gh | apply gi | apply gj); conv => whnf) | (refine ⟨⟨rfl, rfl, nle rfl, nle rfl⟩, ?_⟩; conv => whnf) | (refine AD.plain rfl ?_; conv => whnf) | fail)
    refine hK _ g trivial (SubS.mkN [] [(3, 3), (2200, 2200)] rfl rfl rfl ⟨⟨_, rfl, .ptr _ _ _ _ _ _ _ _ _ rfl rfl rfl rfl⟩, ⟨_, rfl, .same⟩, ⟨_, rfl, .row _ _ _ _ _ _ _ _ _ rfl rfl rfl rfl⟩, ⟨_, rfl, .same⟩, trivial⟩ ⟨.inl ⟨_, _, rfl, rfl, rfl, p4Le rfl rfl rfl rfl fun j hj => ?_⟩, .inl ⟨_, _, rfl, rfl, rfl, .keepA⟩, trivial⟩)
    match j, hj with
    | 0, _ => exact .same
    | 1, _ => exact .same
    | 2, _ => exact .same
    | 3, _ => exact .same
  rintro g -
  obtain ⟨X, hX⟩ : ∃ X, X = someL l := ⟨_, rfl⟩
  rw [← hX] at hB hL1 hL2 hX36 hXp hXm ⊢
  obtain ⟨L, hL⟩ : ∃ L, L = packB X := ⟨_, rfl⟩
  rw [← hL] at hB hL1 hL2 ⊢
  have hXB : BsB X := by rw [hX]; exact someL_bs l
  refine awp_piece tab_ok mixed ?_
  conv => whnf
  repeat (first | ((with_reducible first | apply ga | apply gb | apply gc | apply gd | apply ge | apply gf | apply gg | apply gh | apply gi | apply gj); conv => whnf) | (refine ⟨⟨rfl, rfl, nle rfl, nle rfl⟩, ?_⟩; conv => whnf) | (refine AD.plain rfl ?_; conv => whnf) | fail)
  refine ⟨fun h => absurd h (by simp), fun _ => ?_⟩
  conv => whnf
  repeat (first | ((with_reducible first | apply ga | apply gb | apply gc | apply gd | apply ge | apply gf | apply gg | apply gh | apply gi | apply gj); conv => whnf) | (refine ⟨⟨rfl, rfl, nle rfl, nle rfl⟩, ?_⟩; conv => whnf) | (refine AD.plain rfl ?_; conv => whnf) | fail)
  refine awp_pieceM tab_ok mixed (mkSt 154 [(3, .ptr 3 0 4 0 0), (5, .pv (banksP X)), (6, .row 2200 g 1 0 L.length), (8, i64 (c % 16 : Nat)), (9, i64 (d % 16 : Nat))] [(3, p4O a b c d), (2200, rowA 5 1 bcell 0 g L)]) True (fun K hK => ex_drawn (by kernel_rfl) ?_) (fun _ => ?_)
  · repeat (first | ((with_reducible first | apply ga | apply gb | apply gc | apply gd | apply ge | apply gf | apply gg | apply gh | apply gi | apply gj); conv => whnf) | (refine ⟨⟨rfl, rfl, nle rfl, nle rfl⟩, ?_⟩; conv => whnf) | (refine AD.plain rfl ?_; conv => whnf) | (refine AD.on rfl rfl rfl ?_; conv => whnf) | (refine AD.off rfl rfl rfl ?_; conv => whnf) | fail)
    repeat (refine ⟨⟨rfl, rfl, nle rfl, nle rfl⟩, ?_⟩; conv => whnf)
    repeat (first | ((with_reducible first | apply ga | apply gb | apply gc | apply gd | apply ge | apply gf | apply gg | apply gh | apply gi | apply gj); conv => whnf) | (refine ⟨⟨rfl, rfl, nle rfl, nle rfl⟩, ?_⟩; conv => whnf) | (refine AD.plain rfl ?_; conv => whnf) | fail)
    repeat (first | ((with_reducible first | apply ga | apply gb | apply gc | apply gd | apply ge | apply gf | apply gg | apply gh | apply gi | apply gj); conv => whnf) | (refine ⟨⟨rfl, rfl, nle rfl, nle rfl⟩, ?_⟩; conv => whnf) | (refine AD.plain rfl ?_; conv => whnf) | (refine AD.on rfl rfl rfl ?_; conv => whnf) | (refine AD.off rfl rfl rfl ?_; conv => whnf) | fail)
    refine ⟨⟨by decide⟩, ?_⟩
    conv => whnf
    repeat (first | ((with_reducible first | apply ga | apply gb | apply gc | apply gd | apply ge | apply gf | apply gg | apply gh | apply gi | apply gj); conv => whnf) | (refine ⟨⟨rfl, rfl, nle rfl, nle rfl⟩, ?_⟩; conv => whnf) | (refine AD.plain rfl ?_; conv => whnf) | fail)
    repeat (first | ((with_reducible first | apply ga | apply gb | apply gc | apply gd | apply ge | apply gf | apply gg | apply gh | apply gi | apply gj); conv => whnf) | (refine ⟨⟨rfl, rfl, nle rfl, nle rfl⟩, ?_⟩; conv => whnf) | (refine AD.plain rfl ?_; conv => whnf) | (refine AD.on rfl rfl rfl ?_; conv => whnf) | (refine AD.off rfl rfl rfl ?_; conv => whnf) | fail)
    repeat (refine ⟨⟨rfl, rfl, nle rfl, nle rfl⟩, ?_⟩; conv => whnf)
    repeat (first | ((with_reducible first | apply ga | apply gb | apply gc | apply gd | apply ge | apply gf | apply gg | apply gh | apply gi | apply gj); conv => whnf) | (refine ⟨⟨rfl, rfl, nle rfl, nle rfl⟩, ?_⟩; conv => whnf) | (refine AD.plain rfl ?_; conv => whnf) | fail)
    repeat (first | ((with_reducible first | apply ga | apply gb | apply gc | apply gd | apply ge | apply gf | apply gg | apply gh | apply gi | apply gj); conv => whnf) | (refine ⟨⟨rfl, rfl, nle rfl, nle rfl⟩, ?_⟩; conv => whnf) | (refine AD.plain rfl ?_; conv => whnf) | (refine AD.on rfl rfl rfl ?_; conv => whnf) | (refine AD.off rfl rfl rfl ?_; conv => whnf) | fail)
    refine ⟨⟨by decide⟩, ?_⟩
    conv => whnf
    repeat (first | ((with_reducible first | apply ga | apply gb | apply gc | apply gd | apply ge | apply gf | apply gg | apply gh | apply gi | apply gj); conv => whnf) | (refine ⟨⟨rfl, rfl, nle rfl, nle rfl⟩, ?_⟩; conv => whnf) | (refine AD.plain rfl ?_; conv => whnf) | fail)
    repeat (first | ((with_reducible first | apply ga | apply gb | apply gc | apply gd | apply ge | apply gf | apply gg | apply gh | apply gi | apply gj); conv => whnf) | (refine ⟨⟨rfl, rfl, nle rfl, nle rfl⟩, ?_⟩; conv => whnf) | (refine AD.plain rfl ?_; conv => whnf) | (refine AD.on rfl rfl rfl ?_; conv => whnf) | (refine AD.off rfl rfl rfl ?_; conv => whnf) | fail)
    refine AD.nil ⟨by kernel_rfl, ?_⟩
    conv => whnf
    repeat (first | ((with_reducible first | apply ga | apply gb | apply gc | apply gd | apply ge | apply gf | apply gg | apply gh | apply gi | apply gj); conv => whnf) | (refine ⟨⟨rfl, rfl, nle rfl, nle rfl⟩, ?_⟩; conv => whnf) | (refine AD.plain rfl ?_; conv => whnf) | fail)
    exact hK _ trivial (SubS.mkN [] [(3, 3), (2200, 2200)] rfl rfl rfl ⟨⟨_, rfl, .ptr _ _ _ _ _ _ _ _ _ rfl rfl rfl rfl⟩, ⟨_, rfl, .same⟩, ⟨_, rfl, .row _ _ _ _ _ _ _ _ _ rfl rfl rfl rfl⟩, ⟨_, rfl, VLe.int (mod16 c hc)⟩, ⟨_, rfl, VLe.int (mod16 d hd)⟩, trivial⟩ ⟨.inl ⟨_, _, rfl, rfl, rfl, p4Le rfl rfl rfl rfl fun j hj => p4v hj⟩, .inl ⟨_, _, rfl, rfl, rfl, .keepA⟩, trivial⟩)
  refine awp_piece tab_ok mixed ?_
  conv => whnf
  repeat (first | ((with_reducible first | apply ga | apply gb | apply gc | apply gd | apply ge | apply gf | apply gg | apply gh | apply gi | apply gj); conv => whnf) | (refine ⟨⟨rfl, rfl, nle rfl, nle rfl⟩, ?_⟩; conv => whnf) | (refine AD.plain rfl ?_; conv => whnf) | fail)
  refine ⟨fun h0 => ?_, fun h0 => ?_⟩ <;> replace h0 := nm h0 <;> (try rw [Int.toNat_zero] at h0) <;> (try rw [Int.toNat_one] at h0)
  · conv => whnf
    repeat (first | ((with_reducible first | apply ga | apply gb | apply gc | apply gd | apply ge | apply gf | apply gg | apply gh | apply gi | apply gj); conv => whnf) | (refine ⟨⟨rfl, rfl, nle rfl, nle rfl⟩, ?_⟩; conv => whnf) | (refine AD.plain rfl ?_; conv => whnf) | fail)
    refine ⟨fun h1 => ?_, fun h1 => ?_⟩ <;> replace h1 := nm h1 <;> (try rw [Int.toNat_zero] at h1) <;> (try rw [Int.toNat_one] at h1)
    · conv => whnf
      repeat (first | ((with_reducible first | apply ga | apply gb | apply gc | apply gd | apply ge | apply gf | apply gg | apply gh | apply gi | apply gj); conv => whnf) | (refine ⟨⟨rfl, rfl, nle rfl, nle rfl⟩, ?_⟩; conv => whnf) | (refine AD.plain rfl ?_; conv => whnf) | fail)
      refine CallK.flat [] f15 trivial rfl ?_
      conv => whnf
      repeat (first | ((with_reducible first | apply ga | apply gb | apply gc | apply gd | apply ge | apply gf | apply gg | apply gh | apply gi | apply gj); conv => whnf) | (refine ⟨⟨rfl, rfl, nle rfl, nle rfl⟩, ?_⟩; conv => whnf) | (refine AD.plain rfl ?_; conv => whnf) | fail)
      exact done_bool _ _ rfl rfl rfl
    · conv => whnf
      repeat (first | ((with_reducible first | apply ga | apply gb | apply gc | apply gd | apply ge | apply gf | apply gg | apply gh | apply gi | apply gj); conv => whnf) | (refine ⟨⟨rfl, rfl, nle rfl, nle rfl⟩, ?_⟩; conv => whnf) | (refine AD.plain rfl ?_; conv => whnf) | fail)
      obtain ⟨n, hn⟩ : ∃ n, n = a % X.length := ⟨_, rfl⟩
      have hnX : n < X.length := by rw [hn]; exact Nat.mod_lt _ (by omega)
      have hbn := bsB hXB hnX
      have hmem : X.getD n b0 ∈ X := by rw [List.getD_eq_getElem?_getD, List.getElem?_eq_getElem hnX]; exact List.getElem_mem hnX
      obtain ⟨-, hsn, hp0, hp1⟩ := hXm _ hmem
      obtain ⟨Y, hY⟩ : ∃ Y, Y = (X.getD n b0).ws := ⟨_, rfl⟩
      rw [← hY] at hp0 hp1
      obtain ⟨q, hq⟩ : ∃ q, q = b % Y.length := ⟨_, rfl⟩
      have hqY : q < Y.length := by rw [hq]; exact Nat.mod_lt _ hp0
      have hoff : ∀ j, j ≤ X.length → off X j ≤ j * 2052 := fun j hj => packB_len (packE_ok X (-1) hXp) hj
      have hoffn := hoff n (by omega)
      obtain ⟨w, hw⟩ : ∃ w, w = 6 + off X n + 4 + 2 * q := ⟨_, rfl⟩
      obtain ⟨s, hs⟩ : ∃ s, s = wordS L w := ⟨_, rfl⟩
      have hi16 : c % 16 < 16 := Nat.mod_lt _ (by decide)
      have hk16 : d % 16 < 16 := Nat.mod_lt _ (by decide)
      have hTB := two_bits (q := q) hX36 hXp hnX (by rw [← hY]; exact hqY) hi16 hk16 (by omega) hw (hs.trans (by rw [← hL]))
      rw [← hL] at hTB
      obtain ⟨hwL, hs16, hodd, hTB⟩ := hTB
      refine awp_pieceM tab_ok mixed (mkSt 154 [(3, .ptr 3 0 4 0 0), (5, .pv (banksP X)), (6, .row 2200 g 1 0 L.length), (8, i64 (c % 16 : Nat)), (9, i64 (d % 16 : Nat)), (10, i64 n)] [(3, p4O a b c d), (2200, rowA 5 1 bcell 0 g L)]) True (fun K hK => ?_) (fun _ => ?_)
      · conv => whnf
        repeat (first | ((with_reducible first | apply ga | apply gb | apply gc | apply gd | apply ge | apply gf | apply gg | apply gh | apply gi | apply gj); conv => whnf) | (refine ⟨⟨rfl, rfl, nle rfl, nle rfl⟩, ?_⟩; conv => whnf) | (refine AD.plain rfl ?_; conv => whnf) | fail)
        repeat (refine ⟨⟨rfl, rfl, nle rfl, nle rfl⟩, ?_⟩; conv => whnf)
        repeat (first | ((with_reducible first | apply ga | apply gb | apply gc | apply gd | apply ge | apply gf | apply gg | apply gh | apply gi | apply gj); conv => whnf) | (refine ⟨⟨rfl, rfl, nle rfl, nle rfl⟩, ?_⟩; conv => whnf) | (refine AD.plain rfl ?_; conv => whnf) | fail)
        refine ⟨⟨by omega⟩, ?_⟩
        conv => whnf
        repeat (first | ((with_reducible first | apply ga | apply gb | apply gc | apply gd | apply ge | apply gf | apply gg | apply gh | apply gi | apply gj); conv => whnf) | (refine ⟨⟨rfl, rfl, nle rfl, nle rfl⟩, ?_⟩; conv => whnf) | (refine AD.plain rfl ?_; conv => whnf) | fail)
        exact hK _ trivial (SubS.mkN [] [(3, 3), (2200, 2200)] rfl rfl rfl ⟨⟨_, rfl, .ptr _ _ _ _ _ _ _ _ _ rfl rfl rfl rfl⟩, ⟨_, rfl, .same⟩, ⟨_, rfl, .row _ _ _ _ _ _ _ _ _ rfl rfl rfl rfl⟩, ⟨_, rfl, .same⟩, ⟨_, rfl, .same⟩, ⟨_, rfl, VLe.int (by rw [hn]; exact modN a X.length ha)⟩, trivial⟩ ⟨.inl ⟨_, _, rfl, rfl, rfl, p4Le rfl rfl rfl rfl fun j hj => p4v hj⟩, .inl ⟨_, _, rfl, rfl, rfl, .keepA⟩, trivial⟩)
      refine awp_piece tab_ok mixed ?_
      conv => whnf
      repeat (first | ((with_reducible first | apply ga | apply gb | apply gc | apply gd | apply ge | apply gf | apply gg | apply gh | apply gi | apply gj); conv => whnf) | (refine ⟨⟨rfl, rfl, nle rfl, nle rfl⟩, ?_⟩; conv => whnf) | (refine AD.plain rfl ?_; conv => whnf) | fail)
      refine awp_piece tab_ok mixed ?_
      conv => whnf
      repeat (first | ((with_reducible first | apply ga | apply gb | apply gc | apply gd | apply ge | apply gf | apply gg | apply gh | apply gi | apply gj); conv => whnf) | (refine ⟨⟨rfl, rfl, nle rfl, nle rfl⟩, ?_⟩; conv => whnf) | (refine AD.plain rfl ?_; conv => whnf) | fail)
      refine awp_loopI (fun j : Nat => j ≤ n)
        (fun j => mkSt 154 [(3, .ptr 3 0 4 0 0), (5, .pv (banksP X)), (6, .row 2200 g 1 0 L.length), (8, i64 (c % 16 : Nat)), (9, i64 (d % 16 : Nat)), (10, i64 n), (11, i64 (6 + off X j : Nat)), (12, i64 j)] [(3, p4O a b c d), (2200, rowA 5 1 bcell 0 g L)]) (fun j => n - j) 0 (Nat.zero_le _)
        (SubS.mkN [] [(3, 3), (2200, 2200)] rfl rfl rfl ⟨⟨_, rfl, .ptr _ _ _ _ _ _ _ _ _ rfl rfl rfl rfl⟩, ⟨_, rfl, .same⟩, ⟨_, rfl, .row _ _ _ _ _ _ _ _ _ rfl rfl rfl rfl⟩, ⟨_, rfl, .same⟩, ⟨_, rfl, .same⟩, ⟨_, rfl, .same⟩, ⟨_, rfl, .same⟩, ⟨_, rfl, .same⟩, trivial⟩ ⟨.inl ⟨_, _, rfl, rfl, rfl, p4Le rfl rfl rfl rfl fun j hj => p4v hj⟩, .inl ⟨_, _, rfl, rfl, rfl, .keepA⟩, trivial⟩) ?_
      intro j hj
      have hoffj := hoff j (by omega)
      refine awp_piece tab_ok mixed ?_
      conv => whnf
      repeat (first | ((with_reducible first | apply ga | apply gb | apply gc | apply gd | apply ge | apply gf | apply gg | apply gh | apply gi | apply gj); conv => whnf) | (refine ⟨⟨rfl, rfl, nle rfl, nle rfl⟩, ?_⟩; conv => whnf) | (refine AD.plain rfl ?_; conv => whnf) | fail)
      refine ⟨fun hc2 => ?_, fun hc2 => ?_⟩ <;> replace hc2 := nm hc2 <;> (try rw [Int.toNat_zero] at hc2) <;> (try rw [Int.toNat_one] at hc2)
      · have hjX : j < X.length := by omega
        have hbj := bsB hXB hjX
        have hmj : X.getD j b0 ∈ X := by rw [List.getD_eq_getElem?_getD, List.getElem?_eq_getElem hjX]; exact List.getElem_mem hjX
        have hpj := (hXm _ hmj).2.2.2
        have hsn2 := off_sn hjX
        conv => whnf
        repeat (first | ((with_reducible first | apply ga | apply gb | apply gc | apply gd | apply ge | apply gf | apply gg | apply gh | apply gi | apply gj); conv => whnf) | (refine ⟨⟨rfl, rfl, nle rfl, nle rfl⟩, ?_⟩; conv => whnf) | (refine AD.plain rfl ?_; conv => whnf) | fail)
        refine awp_seq (awp_block ?_)
        refine awp_last tab_ok mixed ?_
        conv => whnf
        repeat (first | ((with_reducible first | apply ga | apply gb | apply gc | apply gd | apply ge | apply gf | apply gg | apply gh | apply gi | apply gj); conv => whnf) | (refine ⟨⟨rfl, rfl, nle rfl, nle rfl⟩, ?_⟩; conv => whnf) | (refine AD.plain rfl ?_; conv => whnf) | fail)
        refine ⟨⟨by unfold inI64; omega⟩, ?_⟩
        conv => whnf
        repeat (first | ((with_reducible first | apply ga | apply gb | apply gc | apply gd | apply ge | apply gf | apply gg | apply gh | apply gi | apply gj); conv => whnf) | (refine ⟨⟨rfl, rfl, nle rfl, nle rfl⟩, ?_⟩; conv => whnf) | (refine AD.plain rfl ?_; conv => whnf) | fail)
        refine ⟨⟨by omega, by omega, rfl⟩, ?_⟩
        conv => whnf
        repeat (first | ((with_reducible first | apply ga | apply gb | apply gc | apply gd | apply ge | apply gf | apply gg | apply gh | apply gi | apply gj); conv => whnf) | (refine ⟨⟨rfl, rfl, nle rfl, nle rfl⟩, ?_⟩; conv => whnf) | (refine AD.plain rfl ?_; conv => whnf) | fail)
        refine ⟨⟨by decide⟩, ?_⟩
        conv => whnf
        repeat (first | ((with_reducible first | apply ga | apply gb | apply gc | apply gd | apply ge | apply gf | apply gg | apply gh | apply gi | apply gj); conv => whnf) | (refine ⟨⟨rfl, rfl, nle rfl, nle rfl⟩, ?_⟩; conv => whnf) | (refine AD.plain rfl ?_; conv => whnf) | fail)
        refine ⟨⟨by decide⟩, ?_⟩
        conv => whnf
        repeat (first | ((with_reducible first | apply ga | apply gb | apply gc | apply gd | apply ge | apply gf | apply gg | apply gh | apply gi | apply gj); conv => whnf) | (refine ⟨⟨rfl, rfl, nle rfl, nle rfl⟩, ?_⟩; conv => whnf) | (refine AD.plain rfl ?_; conv => whnf) | fail)
        rw [Int.toNat_natCast]
        refine ⟨⟨by unfold inI64; omega⟩, ?_⟩
        conv => whnf
        repeat (first | ((with_reducible first | apply ga | apply gb | apply gc | apply gd | apply ge | apply gf | apply gg | apply gh | apply gi | apply gj); conv => whnf) | (refine ⟨⟨rfl, rfl, nle rfl, nle rfl⟩, ?_⟩; conv => whnf) | (refine AD.plain rfl ?_; conv => whnf) | fail)
        refine ⟨⟨by unfold inI64; omega⟩, ?_⟩
        conv => whnf
        repeat (first | ((with_reducible first | apply ga | apply gb | apply gc | apply gd | apply ge | apply gf | apply gg | apply gh | apply gi | apply gj); conv => whnf) | (refine ⟨⟨rfl, rfl, nle rfl, nle rfl⟩, ?_⟩; conv => whnf) | (refine AD.plain rfl ?_; conv => whnf) | fail)
        refine awp_last tab_ok mixed ?_
        conv => whnf
        repeat (first | ((with_reducible first | apply ga | apply gb | apply gc | apply gd | apply ge | apply gf | apply gg | apply gh | apply gi | apply gj); conv => whnf) | (refine ⟨⟨rfl, rfl, nle rfl, nle rfl⟩, ?_⟩; conv => whnf) | (refine AD.plain rfl ?_; conv => whnf) | fail)
        refine ⟨⟨by unfold inI64; omega⟩, ?_⟩
        conv => whnf
        repeat (first | ((with_reducible first | apply ga | apply gb | apply gc | apply gd | apply ge | apply gf | apply gg | apply gh | apply gi | apply gj); conv => whnf) | (refine ⟨⟨rfl, rfl, nle rfl, nle rfl⟩, ?_⟩; conv => whnf) | (refine AD.plain rfl ?_; conv => whnf) | fail)
        refine ⟨j + 1, by omega, (SubS.mkN [] [(3, 3), (2200, 2200)] rfl rfl rfl ⟨⟨_, rfl, .ptr _ _ _ _ _ _ _ _ _ rfl rfl rfl rfl⟩, ⟨_, rfl, .same⟩, ⟨_, rfl, .row _ _ _ _ _ _ _ _ _ rfl rfl rfl rfl⟩, ⟨_, rfl, .same⟩, ⟨_, rfl, .same⟩, ⟨_, rfl, .same⟩, ⟨_, rfl, VLe.int (by rw [hsn2]; omega)⟩, ⟨_, rfl, .same⟩, trivial⟩ ⟨.inl ⟨_, _, rfl, rfl, rfl, p4Le rfl rfl rfl rfl fun j hj => p4v hj⟩, .inl ⟨_, _, rfl, rfl, rfl, .keepA⟩, trivial⟩), by omega⟩
      · obtain rfl : j = n := by omega
        conv => whnf
        repeat (first | ((with_reducible first | apply ga | apply gb | apply gc | apply gd | apply ge | apply gf | apply gg | apply gh | apply gi | apply gj); conv => whnf) | (refine ⟨⟨rfl, rfl, nle rfl, nle rfl⟩, ?_⟩; conv => whnf) | (refine AD.plain rfl ?_; conv => whnf) | fail)
        refine awp_piece tab_ok mixed ?_
        conv => whnf
        repeat (first | ((with_reducible first | apply ga | apply gb | apply gc | apply gd | apply ge | apply gf | apply gg | apply gh | apply gi | apply gj); conv => whnf) | (refine ⟨⟨rfl, rfl, nle rfl, nle rfl⟩, ?_⟩; conv => whnf) | (refine AD.plain rfl ?_; conv => whnf) | fail)
        refine ⟨⟨by omega, by omega, rfl⟩, ?_⟩
        conv => whnf
        repeat (first | ((with_reducible first | apply ga | apply gb | apply gc | apply gd | apply ge | apply gf | apply gg | apply gh | apply gi | apply gj); conv => whnf) | (refine ⟨⟨rfl, rfl, nle rfl, nle rfl⟩, ?_⟩; conv => whnf) | (refine AD.plain rfl ?_; conv => whnf) | fail)
        refine ⟨⟨by decide⟩, ?_⟩
        conv => whnf
        repeat (first | ((with_reducible first | apply ga | apply gb | apply gc | apply gd | apply ge | apply gf | apply gg | apply gh | apply gi | apply gj); conv => whnf) | (refine ⟨⟨rfl, rfl, nle rfl, nle rfl⟩, ?_⟩; conv => whnf) | (refine AD.plain rfl ?_; conv => whnf) | fail)
        refine ⟨⟨by decide⟩, ?_⟩
        conv => whnf
        repeat (first | ((with_reducible first | apply ga | apply gb | apply gc | apply gd | apply ge | apply gf | apply gg | apply gh | apply gi | apply gj); conv => whnf) | (refine ⟨⟨rfl, rfl, nle rfl, nle rfl⟩, ?_⟩; conv => whnf) | (refine AD.plain rfl ?_; conv => whnf) | fail)
        refine ⟨fun h => absurd h (by rw [Int.toNat_natCast, ← hY, beq_iff_eq]; omega), fun _ => ?_⟩
        conv => whnf
        repeat (first | ((with_reducible first | apply ga | apply gb | apply gc | apply gd | apply ge | apply gf | apply gg | apply gh | apply gi | apply gj); conv => whnf) | (refine ⟨⟨rfl, rfl, nle rfl, nle rfl⟩, ?_⟩; conv => whnf) | (refine AD.plain rfl ?_; conv => whnf) | fail)
        have hm : (IntKind.i64.wrap (b : Int)).tmod ((X.getD ((j : Nat) : Int).toNat b0).ws.length : Int) = ((q : Nat) : Int) := by
          rw [Int.toNat_natCast, ← hY, hq]; exact modN b Y.length hb
        refine awp_pieceM tab_ok mixed (mkSt 154 [(3, .ptr 3 0 4 0 0), (5, .pv (banksP X)), (6, .row 2200 g 1 0 L.length), (8, i64 (c % 16 : Nat)), (9, i64 (d % 16 : Nat)), (11, i64 (6 + off X j : Nat)), (13, i64 w)] [(3, p4O a b c d), (2200, rowA 5 1 bcell 0 g L)]) True (fun K hK => ex_drawn (by kernel_rfl) ?_) (fun _ => ?_)
        · repeat (first | ((with_reducible first | apply ga | apply gb | apply gc | apply gd | apply ge | apply gf | apply gg | apply gh | apply gi | apply gj); conv => whnf) | (refine ⟨⟨rfl, rfl, nle rfl, nle rfl⟩, ?_⟩; conv => whnf) | (refine AD.plain rfl ?_; conv => whnf) | (refine AD.on rfl rfl rfl ?_; conv => whnf) | (refine AD.off rfl rfl rfl ?_; conv => whnf) | fail)
          refine ⟨⟨by unfold inI64; omega⟩, ?_⟩
          conv => whnf
          repeat (first | ((with_reducible first | apply ga | apply gb | apply gc | apply gd | apply ge | apply gf | apply gg | apply gh | apply gi | apply gj); conv => whnf) | (refine ⟨⟨rfl, rfl, nle rfl, nle rfl⟩, ?_⟩; conv => whnf) | (refine AD.plain rfl ?_; conv => whnf) | fail)
          repeat (first | ((with_reducible first | apply ga | apply gb | apply gc | apply gd | apply ge | apply gf | apply gg | apply gh | apply gi | apply gj); conv => whnf) | (refine ⟨⟨rfl, rfl, nle rfl, nle rfl⟩, ?_⟩; conv => whnf) | (refine AD.plain rfl ?_; conv => whnf) | (refine AD.on rfl rfl rfl ?_; conv => whnf) | (refine AD.off rfl rfl rfl ?_; conv => whnf) | fail)
          repeat (refine ⟨⟨rfl, rfl, nle rfl, nle rfl⟩, ?_⟩; conv => whnf)
          repeat (first | ((with_reducible first | apply ga | apply gb | apply gc | apply gd | apply ge | apply gf | apply gg | apply gh | apply gi | apply gj); conv => whnf) | (refine ⟨⟨rfl, rfl, nle rfl, nle rfl⟩, ?_⟩; conv => whnf) | (refine AD.plain rfl ?_; conv => whnf) | fail)
          repeat (first | ((with_reducible first | apply ga | apply gb | apply gc | apply gd | apply ge | apply gf | apply gg | apply gh | apply gi | apply gj); conv => whnf) | (refine ⟨⟨rfl, rfl, nle rfl, nle rfl⟩, ?_⟩; conv => whnf) | (refine AD.plain rfl ?_; conv => whnf) | (refine AD.on rfl rfl rfl ?_; conv => whnf) | (refine AD.off rfl rfl rfl ?_; conv => whnf) | fail)
          refine ⟨⟨by omega, by omega, rfl⟩, ?_⟩
          conv => whnf
          repeat (first | ((with_reducible first | apply ga | apply gb | apply gc | apply gd | apply ge | apply gf | apply gg | apply gh | apply gi | apply gj); conv => whnf) | (refine ⟨⟨rfl, rfl, nle rfl, nle rfl⟩, ?_⟩; conv => whnf) | (refine AD.plain rfl ?_; conv => whnf) | fail)
          repeat (first | ((with_reducible first | apply ga | apply gb | apply gc | apply gd | apply ge | apply gf | apply gg | apply gh | apply gi | apply gj); conv => whnf) | (refine ⟨⟨rfl, rfl, nle rfl, nle rfl⟩, ?_⟩; conv => whnf) | (refine AD.plain rfl ?_; conv => whnf) | (refine AD.on rfl rfl rfl ?_; conv => whnf) | (refine AD.off rfl rfl rfl ?_; conv => whnf) | fail)
          refine ⟨⟨by decide⟩, ?_⟩
          conv => whnf
          repeat (first | ((with_reducible first | apply ga | apply gb | apply gc | apply gd | apply ge | apply gf | apply gg | apply gh | apply gi | apply gj); conv => whnf) | (refine ⟨⟨rfl, rfl, nle rfl, nle rfl⟩, ?_⟩; conv => whnf) | (refine AD.plain rfl ?_; conv => whnf) | fail)
          repeat (first | ((with_reducible first | apply ga | apply gb | apply gc | apply gd | apply ge | apply gf | apply gg | apply gh | apply gi | apply gj); conv => whnf) | (refine ⟨⟨rfl, rfl, nle rfl, nle rfl⟩, ?_⟩; conv => whnf) | (refine AD.plain rfl ?_; conv => whnf) | (refine AD.on rfl rfl rfl ?_; conv => whnf) | (refine AD.off rfl rfl rfl ?_; conv => whnf) | fail)
          refine ⟨⟨by decide⟩, ?_⟩
          conv => whnf
          repeat (first | ((with_reducible first | apply ga | apply gb | apply gc | apply gd | apply ge | apply gf | apply gg | apply gh | apply gi | apply gj); conv => whnf) | (refine ⟨⟨rfl, rfl, nle rfl, nle rfl⟩, ?_⟩; conv => whnf) | (refine AD.plain rfl ?_; conv => whnf) | fail)
          repeat (first | ((with_reducible first | apply ga | apply gb | apply gc | apply gd | apply ge | apply gf | apply gg | apply gh | apply gi | apply gj); conv => whnf) | (refine ⟨⟨rfl, rfl, nle rfl, nle rfl⟩, ?_⟩; conv => whnf) | (refine AD.plain rfl ?_; conv => whnf) | (refine AD.on rfl rfl rfl ?_; conv => whnf) | (refine AD.off rfl rfl rfl ?_; conv => whnf) | fail)
          refine ⟨⟨by rw [Int.toNat_natCast, ← hY]; omega⟩, ?_⟩
          conv => whnf
          repeat (first | ((with_reducible first | apply ga | apply gb | apply gc | apply gd | apply ge | apply gf | apply gg | apply gh | apply gi | apply gj); conv => whnf) | (refine ⟨⟨rfl, rfl, nle rfl, nle rfl⟩, ?_⟩; conv => whnf) | (refine AD.plain rfl ?_; conv => whnf) | fail)
          repeat (first | ((with_reducible first | apply ga | apply gb | apply gc | apply gd | apply ge | apply gf | apply gg | apply gh | apply gi | apply gj); conv => whnf) | (refine ⟨⟨rfl, rfl, nle rfl, nle rfl⟩, ?_⟩; conv => whnf) | (refine AD.plain rfl ?_; conv => whnf) | (refine AD.on rfl rfl rfl ?_; conv => whnf) | (refine AD.off rfl rfl rfl ?_; conv => whnf) | fail)
          rw [hm]
          refine ⟨⟨by unfold inI64; omega⟩, ?_⟩
          conv => whnf
          repeat (first | ((with_reducible first | apply ga | apply gb | apply gc | apply gd | apply ge | apply gf | apply gg | apply gh | apply gi | apply gj); conv => whnf) | (refine ⟨⟨rfl, rfl, nle rfl, nle rfl⟩, ?_⟩; conv => whnf) | (refine AD.plain rfl ?_; conv => whnf) | fail)
          repeat (first | ((with_reducible first | apply ga | apply gb | apply gc | apply gd | apply ge | apply gf | apply gg | apply gh | apply gi | apply gj); conv => whnf) | (refine ⟨⟨rfl, rfl, nle rfl, nle rfl⟩, ?_⟩; conv => whnf) | (refine AD.plain rfl ?_; conv => whnf) | (refine AD.on rfl rfl rfl ?_; conv => whnf) | (refine AD.off rfl rfl rfl ?_; conv => whnf) | fail)
          refine ⟨⟨by unfold inI64; omega⟩, ?_⟩
          conv => whnf
          repeat (first | ((with_reducible first | apply ga | apply gb | apply gc | apply gd | apply ge | apply gf | apply gg | apply gh | apply gi | apply gj); conv => whnf) | (refine ⟨⟨rfl, rfl, nle rfl, nle rfl⟩, ?_⟩; conv => whnf) | (refine AD.plain rfl ?_; conv => whnf) | fail)
          repeat (first | ((with_reducible first | apply ga | apply gb | apply gc | apply gd | apply ge | apply gf | apply gg | apply gh | apply gi | apply gj); conv => whnf) | (refine ⟨⟨rfl, rfl, nle rfl, nle rfl⟩, ?_⟩; conv => whnf) | (refine AD.plain rfl ?_; conv => whnf) | (refine AD.on rfl rfl rfl ?_; conv => whnf) | (refine AD.off rfl rfl rfl ?_; conv => whnf) | fail)
          refine AD.nil ⟨by kernel_rfl, ?_⟩
          conv => whnf
          repeat (first | ((with_reducible first | apply ga | apply gb | apply gc | apply gd | apply ge | apply gf | apply gg | apply gh | apply gi | apply gj); conv => whnf) | (refine ⟨⟨rfl, rfl, nle rfl, nle rfl⟩, ?_⟩; conv => whnf) | (refine AD.plain rfl ?_; conv => whnf) | fail)
          exact hK _ trivial (SubS.mkN [] [(3, 3), (2200, 2200)] rfl rfl rfl ⟨⟨_, rfl, .ptr _ _ _ _ _ _ _ _ _ rfl rfl rfl rfl⟩, ⟨_, rfl, .same⟩, ⟨_, rfl, .row _ _ _ _ _ _ _ _ _ rfl rfl rfl rfl⟩, ⟨_, rfl, .same⟩, ⟨_, rfl, .same⟩, ⟨_, rfl, .same⟩, ⟨_, rfl, VLe.int (by rw [hw]; omega)⟩, trivial⟩ ⟨.inl ⟨_, _, rfl, rfl, rfl, p4Le rfl rfl rfl rfl fun j hj => p4v hj⟩, .inl ⟨_, _, rfl, rfl, rfl, .keepA⟩, trivial⟩)
        refine awp_piece tab_ok mixed ?_
        conv => whnf
        repeat (first | ((with_reducible first | apply ga | apply gb | apply gc | apply gd | apply ge | apply gf | apply gg | apply gh | apply gi | apply gj); conv => whnf) | (refine ⟨⟨rfl, rfl, nle rfl, nle rfl⟩, ?_⟩; conv => whnf) | (refine AD.plain rfl ?_; conv => whnf) | fail)
        refine ⟨⟨by unfold inI64; omega⟩, ?_⟩
        conv => whnf
        repeat (first | ((with_reducible first | apply ga | apply gb | apply gc | apply gd | apply ge | apply gf | apply gg | apply gh | apply gi | apply gj); conv => whnf) | (refine ⟨⟨rfl, rfl, nle rfl, nle rfl⟩, ?_⟩; conv => whnf) | (refine AD.plain rfl ?_; conv => whnf) | fail)
        refine ⟨fun h => absurd h (by simp; omega), fun _ => ?_⟩
        conv => whnf
        repeat (first | ((with_reducible first | apply ga | apply gb | apply gc | apply gd | apply ge | apply gf | apply gg | apply gh | apply gi | apply gj); conv => whnf) | (refine ⟨⟨rfl, rfl, nle rfl, nle rfl⟩, ?_⟩; conv => whnf) | (refine AD.plain rfl ?_; conv => whnf) | fail)
        obtain ⟨s', hs'⟩ : ∃ s', s' = s ^^^ 2 ^ (c % 16) ^^^ 2 ^ (d % 16) := ⟨_, rfl⟩
        rw [← hs'] at hodd hTB
        have hs'l : s' < 65536 := by rw [hs']; exact two_word_lt hs16 hi16 hk16
        refine awp_pieceM tab_ok mixed (mkSt 154 [(6, .row 2200 g 1 0 L.length), (8, i64 (c % 16 : Nat)), (9, i64 (d % 16 : Nat)), (11, i64 (6 + off X j : Nat)), (13, i64 w), (14, u16 s)] [(2200, rowA 5 1 bcell 0 g L)]) True (fun K hK => ex_drawn (by kernel_rfl) ?_) (fun _ => ?_)
        · repeat (first | ((with_reducible first | apply ga | apply gb | apply gc | apply gd | apply ge | apply gf | apply gg | apply gh | apply gi | apply gj); conv => whnf) | (refine ⟨⟨rfl, rfl, nle rfl, nle rfl⟩, ?_⟩; conv => whnf) | (refine AD.plain rfl ?_; conv => whnf) | (refine AD.on rfl rfl rfl ?_; conv => whnf) | (refine AD.off rfl rfl rfl ?_; conv => whnf) | fail)
          refine ⟨⟨by omega, by omega, rfl⟩, ?_⟩
          conv => whnf
          repeat (first | ((with_reducible first | apply ga | apply gb | apply gc | apply gd | apply ge | apply gf | apply gg | apply gh | apply gi | apply gj); conv => whnf) | (refine ⟨⟨rfl, rfl, nle rfl, nle rfl⟩, ?_⟩; conv => whnf) | (refine AD.plain rfl ?_; conv => whnf) | fail)
          repeat (first | ((with_reducible first | apply ga | apply gb | apply gc | apply gd | apply ge | apply gf | apply gg | apply gh | apply gi | apply gj); conv => whnf) | (refine ⟨⟨rfl, rfl, nle rfl, nle rfl⟩, ?_⟩; conv => whnf) | (refine AD.plain rfl ?_; conv => whnf) | (refine AD.on rfl rfl rfl ?_; conv => whnf) | (refine AD.off rfl rfl rfl ?_; conv => whnf) | fail)
          refine ⟨⟨rfl, rfl, by show 0 + ((w : Nat) : Int).toNat < L.length; omega, nle rfl⟩, ?_⟩
          conv => whnf
          repeat (first | ((with_reducible first | apply ga | apply gb | apply gc | apply gd | apply ge | apply gf | apply gg | apply gh | apply gi | apply gj); conv => whnf) | (refine ⟨⟨rfl, rfl, nle rfl, nle rfl⟩, ?_⟩; conv => whnf) | (refine AD.plain rfl ?_; conv => whnf) | fail)
          repeat (first | ((with_reducible first | apply ga | apply gb | apply gc | apply gd | apply ge | apply gf | apply gg | apply gh | apply gi | apply gj); conv => whnf) | (refine ⟨⟨rfl, rfl, nle rfl, nle rfl⟩, ?_⟩; conv => whnf) | (refine AD.plain rfl ?_; conv => whnf) | (refine AD.on rfl rfl rfl ?_; conv => whnf) | (refine AD.off rfl rfl rfl ?_; conv => whnf) | fail)
          refine ⟨⟨by unfold inI64; omega⟩, ?_⟩
          conv => whnf
          repeat (first | ((with_reducible first | apply ga | apply gb | apply gc | apply gd | apply ge | apply gf | apply gg | apply gh | apply gi | apply gj); conv => whnf) | (refine ⟨⟨rfl, rfl, nle rfl, nle rfl⟩, ?_⟩; conv => whnf) | (refine AD.plain rfl ?_; conv => whnf) | fail)
          repeat (first | ((with_reducible first | apply ga | apply gb | apply gc | apply gd | apply ge | apply gf | apply gg | apply gh | apply gi | apply gj); conv => whnf) | (refine ⟨⟨rfl, rfl, nle rfl, nle rfl⟩, ?_⟩; conv => whnf) | (refine AD.plain rfl ?_; conv => whnf) | (refine AD.on rfl rfl rfl ?_; conv => whnf) | (refine AD.off rfl rfl rfl ?_; conv => whnf) | fail)
          refine ⟨⟨by omega, by omega, rfl⟩, ?_⟩
          conv => whnf
          repeat (first | ((with_reducible first | apply ga | apply gb | apply gc | apply gd | apply ge | apply gf | apply gg | apply gh | apply gi | apply gj); conv => whnf) | (refine ⟨⟨rfl, rfl, nle rfl, nle rfl⟩, ?_⟩; conv => whnf) | (refine AD.plain rfl ?_; conv => whnf) | fail)
          repeat (first | ((with_reducible first | apply ga | apply gb | apply gc | apply gd | apply ge | apply gf | apply gg | apply gh | apply gi | apply gj); conv => whnf) | (refine ⟨⟨rfl, rfl, nle rfl, nle rfl⟩, ?_⟩; conv => whnf) | (refine AD.plain rfl ?_; conv => whnf) | (refine AD.on rfl rfl rfl ?_; conv => whnf) | (refine AD.off rfl rfl rfl ?_; conv => whnf) | fail)
          refine ⟨⟨rfl, rfl, by show 0 + ((w : Int) + 1).toNat < L.length; omega, nle rfl⟩, ?_⟩
          conv => whnf
          repeat (first | ((with_reducible first | apply ga | apply gb | apply gc | apply gd | apply ge | apply gf | apply gg | apply gh | apply gi | apply gj); conv => whnf) | (refine ⟨⟨rfl, rfl, nle rfl, nle rfl⟩, ?_⟩; conv => whnf) | (refine AD.plain rfl ?_; conv => whnf) | fail)
          repeat (first | ((with_reducible first | apply ga | apply gb | apply gc | apply gd | apply ge | apply gf | apply gg | apply gh | apply gi | apply gj); conv => whnf) | (refine ⟨⟨rfl, rfl, nle rfl, nle rfl⟩, ?_⟩; conv => whnf) | (refine AD.plain rfl ?_; conv => whnf) | (refine AD.on rfl rfl rfl ?_; conv => whnf) | (refine AD.off rfl rfl rfl ?_; conv => whnf) | fail)
          refine AD.nil ⟨by kernel_rfl, ?_⟩
          conv => whnf
          repeat (first | ((with_reducible first | apply ga | apply gb | apply gc | apply gd | apply ge | apply gf | apply gg | apply gh | apply gi | apply gj); conv => whnf) | (refine ⟨⟨rfl, rfl, nle rfl, nle rfl⟩, ?_⟩; conv => whnf) | (refine AD.plain rfl ?_; conv => whnf) | fail)
          exact hK _ trivial (SubS.mkN [] [(2200, 2200)] rfl rfl rfl ⟨⟨_, rfl, .row _ _ _ _ _ _ _ _ _ rfl rfl rfl rfl⟩, ⟨_, rfl, .same⟩, ⟨_, rfl, .same⟩, ⟨_, rfl, .same⟩, ⟨_, rfl, .same⟩, ⟨_, rfl, VLe.int (by
            rw [hs]
            exact word_mk hB w _ _ (by omega) (by omega))⟩, trivial⟩ ⟨.inl ⟨_, _, rfl, rfl, rfl, .keepA⟩, trivial⟩)
        refine awp_pieceM tab_ok mixed (mkSt 154 [(6, .row 2200 g 1 0 L.length), (11, i64 (6 + off X j : Nat)), (13, i64 w), (14, u16 s')] [(2200, rowA 5 1 bcell 0 g L)]) True (fun K hK => ex_drawn (by kernel_rfl) ?_) (fun _ => ?_)
        · repeat (first | ((with_reducible first | apply ga | apply gb | apply gc | apply gd | apply ge | apply gf | apply gg | apply gh | apply gi | apply gj); conv => whnf) | (refine ⟨⟨rfl, rfl, nle rfl, nle rfl⟩, ?_⟩; conv => whnf) | (refine AD.plain rfl ?_; conv => whnf) | (refine AD.on rfl rfl rfl ?_; conv => whnf) | (refine AD.off rfl rfl rfl ?_; conv => whnf) | fail)
          refine ⟨⟨by omega⟩, ?_⟩
          conv => whnf
          repeat (first | ((with_reducible first | apply ga | apply gb | apply gc | apply gd | apply ge | apply gf | apply gg | apply gh | apply gi | apply gj); conv => whnf) | (refine ⟨⟨rfl, rfl, nle rfl, nle rfl⟩, ?_⟩; conv => whnf) | (refine AD.plain rfl ?_; conv => whnf) | fail)
          repeat (first | ((with_reducible first | apply ga | apply gb | apply gc | apply gd | apply ge | apply gf | apply gg | apply gh | apply gi | apply gj); conv => whnf) | (refine ⟨⟨rfl, rfl, nle rfl, nle rfl⟩, ?_⟩; conv => whnf) | (refine AD.plain rfl ?_; conv => whnf) | (refine AD.on rfl rfl rfl ?_; conv => whnf) | (refine AD.off rfl rfl rfl ?_; conv => whnf) | fail)
          refine ⟨⟨by omega⟩, ?_⟩
          conv => whnf
          repeat (first | ((with_reducible first | apply ga | apply gb | apply gc | apply gd | apply ge | apply gf | apply gg | apply gh | apply gi | apply gj); conv => whnf) | (refine ⟨⟨rfl, rfl, nle rfl, nle rfl⟩, ?_⟩; conv => whnf) | (refine AD.plain rfl ?_; conv => whnf) | fail)
          repeat (first | ((with_reducible first | apply ga | apply gb | apply gc | apply gd | apply ge | apply gf | apply gg | apply gh | apply gi | apply gj); conv => whnf) | (refine ⟨⟨rfl, rfl, nle rfl, nle rfl⟩, ?_⟩; conv => whnf) | (refine AD.plain rfl ?_; conv => whnf) | (refine AD.on rfl rfl rfl ?_; conv => whnf) | (refine AD.off rfl rfl rfl ?_; conv => whnf) | fail)
          refine AD.nil ⟨by kernel_rfl, ?_⟩
          conv => whnf
          repeat (first | ((with_reducible first | apply ga | apply gb | apply gc | apply gd | apply ge | apply gf | apply gg | apply gh | apply gi | apply gj); conv => whnf) | (refine ⟨⟨rfl, rfl, nle rfl, nle rfl⟩, ?_⟩; conv => whnf) | (refine AD.plain rfl ?_; conv => whnf) | fail)
          exact hK _ trivial (SubS.mkN [] [(2200, 2200)] rfl rfl rfl ⟨⟨_, rfl, .row _ _ _ _ _ _ _ _ _ rfl rfl rfl rfl⟩, ⟨_, rfl, .same⟩, ⟨_, rfl, .same⟩, ⟨_, rfl, VLe.int (by
            rw [hs']
            exact two_xor hs16 hi16 hk16)⟩, trivial⟩ ⟨.inl ⟨_, _, rfl, rfl, rfl, .keepA⟩, trivial⟩)
        have e0 : 0 + ((w : Nat) : Int).toNat = w := by omega
        have e1 : 0 + ((w : Int) + 1).toNat = w + 1 := by omega
        have v0 : IntKind.u8.wrap ((s' : Int).fdiv (2 ^ min (Int.toNat 8) IntKind.u16.bits)) = ((s' / 256 : Nat) : Int) := by
          rw [show min (Int.toNat 8) IntKind.u16.bits = 8 from rfl, Int.fdiv_eq_ediv_of_nonneg _ (by decide), w8]; omega
        have v1 : IntKind.u8.wrap (s' : Int) = ((s' % 256 : Nat) : Int) := by rw [w8]; omega
        refine awp_pieceM tab_ok mixed (mkSt 154 [(6, .row 2200 g 1 0 L.length), (11, i64 (6 + off X j : Nat)), (13, i64 w), (14, u16 s')] [(2200, rowA 5 1 bcell 0 g (L.set (0 + ((w : Nat) : Int).toNat) (s' / 256)))]) True (fun K hK => ?_) (fun _ => ?_)
        · conv => whnf
          repeat (first | ((with_reducible first | apply ga | apply gb | apply gc | apply gd | apply ge | apply gf | apply gg | apply gh | apply gi | apply gj); conv => whnf) | (refine ⟨⟨rfl, rfl, nle rfl, nle rfl⟩, ?_⟩; conv => whnf) | (refine AD.plain rfl ?_; conv => whnf) | fail)
          refine ⟨⟨by decide⟩, ?_⟩
          conv => whnf
          repeat (first | ((with_reducible first | apply ga | apply gb | apply gc | apply gd | apply ge | apply gf | apply gg | apply gh | apply gi | apply gj); conv => whnf) | (refine ⟨⟨rfl, rfl, nle rfl, nle rfl⟩, ?_⟩; conv => whnf) | (refine AD.plain rfl ?_; conv => whnf) | fail)
          refine ⟨⟨by omega, by omega, rfl⟩, ?_⟩
          conv => whnf
          repeat (first | ((with_reducible first | apply ga | apply gb | apply gc | apply gd | apply ge | apply gf | apply gg | apply gh | apply gi | apply gj); conv => whnf) | (refine ⟨⟨rfl, rfl, nle rfl, nle rfl⟩, ?_⟩; conv => whnf) | (refine AD.plain rfl ?_; conv => whnf) | fail)
          refine ⟨⟨rfl, rfl, by show 0 + ((w : Nat) : Int).toNat < L.length; omega, nle rfl⟩, ?_⟩
          conv => whnf
          repeat (first | ((with_reducible first | apply ga | apply gb | apply gc | apply gd | apply ge | apply gf | apply gg | apply gh | apply gi | apply gj); conv => whnf) | (refine ⟨⟨rfl, rfl, nle rfl, nle rfl⟩, ?_⟩; conv => whnf) | (refine AD.plain rfl ?_; conv => whnf) | fail)
          exact hK _ trivial (SubS.mkN [] [(2200, 2200)] rfl rfl rfl ⟨⟨_, rfl, .row _ _ _ _ _ _ _ _ _ rfl rfl rfl rfl⟩, ⟨_, rfl, .same⟩, ⟨_, rfl, .same⟩, ⟨_, rfl, .same⟩, trivial⟩ ⟨.inl ⟨_, _, rfl, rfl, rfl, OLe.setB (gv := fun _ => .pv (.int .u8 (IntKind.u8.wrap ((s' : Int).fdiv (2 ^ min (Int.toNat 8) IntKind.u16.bits))))) rfl rfl rfl rfl rfl (VLe.int v0) (by omega)⟩, trivial⟩)
        rw [e0]
        obtain ⟨L1, hL1'⟩ : ∃ L1, L1 = L.set w (s' / 256) := ⟨_, rfl⟩
        have hL1l : L1.length = L.length := by rw [hL1']; exact List.length_set
        rw [← hL1'] at hTB ⊢
        refine awp_pieceM tab_ok mixed (mkSt 154 [(6, .row 2200 g 1 0 L.length), (11, i64 (6 + off X j : Nat)), (14, u16 s')] [(2200, rowA 5 1 bcell 0 g (L1.set (0 + ((w : Int) + 1).toNat) (s' % 256)))]) True (fun K hK => ?_) (fun _ => ?_)
        · conv => whnf
          repeat (first | ((with_reducible first | apply ga | apply gb | apply gc | apply gd | apply ge | apply gf | apply gg | apply gh | apply gi | apply gj); conv => whnf) | (refine ⟨⟨rfl, rfl, nle rfl, nle rfl⟩, ?_⟩; conv => whnf) | (refine AD.plain rfl ?_; conv => whnf) | fail)
          refine ⟨⟨by unfold inI64; omega⟩, ?_⟩
          conv => whnf
          repeat (first | ((with_reducible first | apply ga | apply gb | apply gc | apply gd | apply ge | apply gf | apply gg | apply gh | apply gi | apply gj); conv => whnf) | (refine ⟨⟨rfl, rfl, nle rfl, nle rfl⟩, ?_⟩; conv => whnf) | (refine AD.plain rfl ?_; conv => whnf) | fail)
          refine ⟨⟨by omega, by omega, rfl⟩, ?_⟩
          conv => whnf
          repeat (first | ((with_reducible first | apply ga | apply gb | apply gc | apply gd | apply ge | apply gf | apply gg | apply gh | apply gi | apply gj); conv => whnf) | (refine ⟨⟨rfl, rfl, nle rfl, nle rfl⟩, ?_⟩; conv => whnf) | (refine AD.plain rfl ?_; conv => whnf) | fail)
          refine ⟨⟨rfl, rfl, by show 0 + ((w : Int) + 1).toNat < L1.length; omega, nle rfl⟩, ?_⟩
          conv => whnf
          repeat (first | ((with_reducible first | apply ga | apply gb | apply gc | apply gd | apply ge | apply gf | apply gg | apply gh | apply gi | apply gj); conv => whnf) | (refine ⟨⟨rfl, rfl, nle rfl, nle rfl⟩, ?_⟩; conv => whnf) | (refine AD.plain rfl ?_; conv => whnf) | fail)
          exact hK _ trivial (SubS.mkN [] [(2200, 2200)] rfl rfl rfl ⟨⟨_, rfl, .row _ _ _ _ _ _ _ _ _ rfl rfl rfl rfl⟩, ⟨_, rfl, .same⟩, ⟨_, rfl, .same⟩, trivial⟩ ⟨.inl ⟨_, _, rfl, rfl, rfl, OLe.setB (gv := fun _ => .pv (.int .u8 (IntKind.u8.wrap (s' : Int)))) rfl rfl rfl rfl rfl (VLe.int v1) (by omega)⟩, trivial⟩)
        rw [e1]
        obtain ⟨L2, hL2'⟩ : ∃ L2, L2 = L1.set (w + 1) (s' % 256) := ⟨_, rfl⟩
        have hL2l : L2.length = L.length := by rw [hL2', List.length_set]; exact hL1l
        rw [← hL2'] at hTB ⊢
        have hL2B : BtB L2 := by
          refine ⟨by omega, fun x hx => ?_⟩
          rw [hL2'] at hx
          rcases List.mem_or_eq_of_mem_set hx with hx | rfl
          · rw [hL1'] at hx
            rcases List.mem_or_eq_of_mem_set hx with hx | rfl
            · exact hB.2 x hx
            · omega
          · omega
        have c32 := f32 s' hs'l
        rw [hodd] at c32
        have c27 := f27 L2 hL2B
        rw [hTB] at c27
        have c27 : PureCall Try.prog 27 [.pv (bytesP L2)] (tupV [.pv (banksP []), i64 (6 + off X j : Nat), i64 10]) := c27
        refine awp_piece tab_ok mixed ?_
        conv => whnf
        repeat (first | ((with_reducible first | apply ga | apply gb | apply gc | apply gd | apply ge | apply gf | apply gg | apply gh | apply gi | apply gj); conv => whnf) | (refine ⟨⟨rfl, rfl, nle rfl, nle rfl⟩, ?_⟩; conv => whnf) | (refine AD.plain rfl ?_; conv => whnf) | fail)
        refine CallK.flat [] c32 ⟨.same, trivial⟩ rfl ?_
        conv => whnf
        repeat (first | ((with_reducible first | apply ga | apply gb | apply gc | apply gd | apply ge | apply gf | apply gg | apply gh | apply gi | apply gj); conv => whnf) | (refine ⟨⟨rfl, rfl, nle rfl, nle rfl⟩, ?_⟩; conv => whnf) | (refine AD.plain rfl ?_; conv => whnf) | fail)
        refine awp_piece tab_ok mixed ?_
        conv => whnf
        repeat (first | ((with_reducible first | apply ga | apply gb | apply gc | apply gd | apply ge | apply gf | apply gg | apply gh | apply gi | apply gj); conv => whnf) | (refine ⟨⟨rfl, rfl, nle rfl, nle rfl⟩, ?_⟩; conv => whnf) | (refine AD.plain rfl ?_; conv => whnf) | fail)
        refine CallK.drop [2200] c27 ⟨VLe.frzO (E := 5) (g := g) (L := L2) rfl rfl .keepA hL2l.symm, trivial⟩ ?_
        conv => whnf
        repeat (first | ((with_reducible first | apply ga | apply gb | apply gc | apply gd | apply ge | apply gf | apply gg | apply gh | apply gi | apply gj); conv => whnf) | (refine ⟨⟨rfl, rfl, nle rfl, nle rfl⟩, ?_⟩; conv => whnf) | (refine AD.plain rfl ?_; conv => whnf) | fail)
        refine awp_last tab_ok mixed ?_
        conv => whnf
        repeat (first | ((with_reducible first | apply ga | apply gb | apply gc | apply gd | apply ge | apply gf | apply gg | apply gh | apply gi | apply gj); conv => whnf) | (refine ⟨⟨rfl, rfl, nle rfl, nle rfl⟩, ?_⟩; conv => whnf) | (refine AD.plain rfl ?_; conv => whnf) | fail)
        refine ⟨fun _ => ?_, fun h => absurd h (by simp)⟩
        conv => whnf
        repeat (first | ((with_reducible first | apply ga | apply gb | apply gc | apply gd | apply ge | apply gf | apply gg | apply gh | apply gi | apply gj); conv => whnf) | (refine ⟨⟨rfl, rfl, nle rfl, nle rfl⟩, ?_⟩; conv => whnf) | (refine AD.plain rfl ?_; conv => whnf) | fail)
        refine ⟨fun _ => ?_, fun h => absurd h (by simp)⟩
        conv => whnf
        repeat (first | ((with_reducible first | apply ga | apply gb | apply gc | apply gd | apply ge | apply gf | apply gg | apply gh | apply gi | apply gj); conv => whnf) | (refine ⟨⟨rfl, rfl, nle rfl, nle rfl⟩, ?_⟩; conv => whnf) | (refine AD.plain rfl ?_; conv => whnf) | fail)
        refine ⟨fun _ => ?_, fun h => absurd h (by simp)⟩
        conv => whnf
        repeat (first | ((with_reducible first | apply ga | apply gb | apply gc | apply gd | apply ge | apply gf | apply gg | apply gh | apply gi | apply gj); conv => whnf) | (refine ⟨⟨rfl, rfl, nle rfl, nle rfl⟩, ?_⟩; conv => whnf) | (refine AD.plain rfl ?_; conv => whnf) | fail)
        refine CallK.flat [] f15 trivial rfl ?_
        conv => whnf
        repeat (first | ((with_reducible first | apply ga | apply gb | apply gc | apply gd | apply ge | apply gf | apply gg | apply gh | apply gi | apply gj); conv => whnf) | (refine ⟨⟨rfl, rfl, nle rfl, nle rfl⟩, ?_⟩; conv => whnf) | (refine AD.plain rfl ?_; conv => whnf) | fail)
        exact done_bool _ _ rfl rfl rfl
  · conv => whnf
    repeat (first | ((with_reducible first | apply ga | apply gb | apply gc | apply gd | apply ge | apply gf | apply gg | apply gh | apply gi | apply gj); conv => whnf) | (refine ⟨⟨rfl, rfl, nle rfl, nle rfl⟩, ?_⟩; conv => whnf) | (refine AD.plain rfl ?_; conv => whnf) | fail)
    refine CallK.flat [] f15 trivial rfl ?_
    conv => whnf
    repeat (first | ((with_reducible first | apply ga | apply gb | apply gc | apply gd | apply ge | apply gf | apply gg | apply gh | apply gi | apply gj); conv => whnf) | (refine ⟨⟨rfl, rfl, nle rfl, nle rfl⟩, ?_⟩; conv => whnf) | (refine AD.plain rfl ?_; conv => whnf) | fail)
    exact done_bool _ _ rfl rfl rfl
end Go.Proofs.Ytioccpodnkllfaa
