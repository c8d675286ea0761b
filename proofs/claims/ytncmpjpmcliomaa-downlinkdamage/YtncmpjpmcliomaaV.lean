/- Part of the proof: what the functions that the law calls compute. -/
import Derived.Test.YtncmpjpmcliomaaB
namespace Go.Proofs.Ytncmpjpmcliomaa
open Go Go.AM
attribute [local irreducible] AWP CallK PureCall SubS
def i16 (n : Int) : AV := .pv (.int .u16 n)
def i32' (n : Int) : AV := .pv (.int .u32 n)
def i64 (n : Int) : AV := .pv (.int .i64 n)
def u8 (n : Int) : AV := .pv (.int .u8 n)
def bb (b : Bool) : AV := .pv (.bool b)
/-- The sum of two words. -/
def addC (a b : Int) : Int := if 32767 < a % 32768 + b % 32768 then a % 32768 + b % 32768 - 32767 else a % 32768 + b % 32768
def W (x : Int) : Prop := 0 ≤ x ∧ x < 65536
theorem addC_W {a b : Int} : W (addC a b) ∧ addC a b < 32768 := by unfold addC W; split <;> omega
theorem f47 (a b : Int) (ha : 0 ≤ a ∧ a < 32768) (hb : 0 ≤ b ∧ b < 32768) : PureCall Try.prog 47 [i16 a, i16 b, i32' 32767] (i16 (addC a b)) := by
  refine PureCall.run tab_ok mixed (by kernel_rfl) Try.func47 rfl rfl rfl ?_
  conv => whnf
  refine ⟨fun hc => ?_, fun hc => ?_⟩
  · have hc := of_decide_eq_true hc
    simp only [w32] at hc
    conv => whnf
    refine done_int _ _ _ rfl rfl ?_
    simp only [w32, w16]
    unfold addC
    split <;> omega
  · have hc := of_decide_eq_false hc
    simp only [w32] at hc
    conv => whnf
    refine done_int _ _ _ rfl rfl ?_
    simp only [w32, w16]
    unfold addC
    split <;> omega
theorem f39 (a b : Int) (ha : W a) (hb : W b) : PureCall Try.prog 39 [i16 a, i16 b] (i16 (addC a b)) := by
  refine PureCall.run tab_ok mixed (by kernel_rfl) Try.func39 rfl rfl rfl ?_
  conv => whnf
  refine CallK.flat [] (f47 (a % 32768) (b % 32768) (by omega) (by omega)) ⟨.int (and15 ha.1 ha.2), .int (and15 hb.1 hb.2), .same, trivial⟩ rfl ?_
  conv => whnf
  exact done_int _ _ _ rfl rfl (by unfold addC; simp only [Int.emod_emod_of_dvd, Int.dvd_refl])
def ck (l : List Int) : Int := l.foldl addC 0
theorem ck_take {l : List Int} {i : Nat} (h : i < l.length) : ck (l.take (i + 1)) = addC (ck (l.take i)) (l.getD i 0) := by
  rw [take_succ_getD h, ck, List.foldl_append]; rfl
theorem ck_W (l : List Int) : W (ck l) := by
  have : ∀ (l : List Int) (s : Int), W s → W (l.foldl addC s) := by
    intro l
    induction l with
    | nil => intro s h; exact h
    | cons x l ih => intro s _; exact ih _ addC_W.1
  exact this l 0 ⟨by decide, by decide⟩
theorem f31 (l : List Int) (hl : l.length < 2 ^ 62) (hw : ∀ x ∈ l, W x) : PureCall Try.prog 31 [.pv (sq 23 .u16 l)] (i16 (ck l)) := by
  refine PureCall.run tab_ok mixed (by kernel_rfl) Try.func31 rfl rfl rfl ?_
  conv => whnf
  refine ex_loop tab_ok mixed (fun i => i ≤ l.length) (fun i : Nat => mkSt 17 [(6, .pv (sq 23 .u16 l)), (3, i16 (ck (l.take i))), (7, i64 l.length), (8, i64 i)] []) (fun i => l.length - i) 0 (Nat.zero_le _) (SubS.mk [] rfl ?_ trivial) fun i hi => ?_
  · exact ⟨⟨_, rfl, .same⟩, ⟨_, rfl, .same⟩, ⟨_, rfl, .same⟩, ⟨_, rfl, .same⟩, trivial⟩
  conv => whnf
  refine ⟨fun hc => ?_, fun hc => ?_⟩
  · have hc := of_decide_eq_true hc
    have hlt : i < l.length := by omega
    conv => whnf
    refine ⟨⟨by omega, hc, rfl⟩, ?_⟩
    conv => whnf
    refine ⟨⟨Nat.le_refl _⟩, ?_⟩
    conv => whnf
    refine CallK.flat [] (f39 _ _ (ck_W _) (allR_getD hw hlt)) ⟨.same, .same, trivial⟩ rfl ?_
    conv => whnf
    refine ⟨⟨by unfold inI64; omega⟩, ?_⟩
    conv => whnf
    refine ⟨i + 1, hlt, SubS.mk [] rfl ⟨⟨_, rfl, .same⟩, ⟨_, rfl, .int ?_⟩, ⟨_, rfl, .same⟩, ⟨_, rfl, .same⟩, trivial⟩ trivial, by omega⟩
    rw [ck_take hlt]
  · have hc := of_decide_eq_false hc
    conv => whnf
    refine done_int _ _ _ rfl rfl ?_
    rw [List.take_of_length_le (by omega)]
theorem f48 (a : Int) (ha : W a) : PureCall Try.prog 48 [i16 a] (i64 (a % 32768)) := by
  refine PureCall.run tab_ok mixed (by kernel_rfl) Try.func48 rfl rfl rfl ?_
  conv => whnf
  refine ⟨⟨by decide⟩, ?_⟩
  conv => whnf
  refine done_int _ _ _ rfl rfl ?_
  rw [wi64 (by have := ha.1; omega) (by have := ha.2; omega), Int.tmod_eq_emod_of_nonneg ha.1]
theorem f40 (a b : Int) (ha : W a) (hb : W b) : PureCall Try.prog 40 [i16 a, i16 b] (i16 (addC a b)) := by
  refine PureCall.run tab_ok mixed (by kernel_rfl) Try.func40 rfl rfl rfl ?_
  conv => whnf
  refine CallK.flat [] (f48 a ha) ⟨.same, trivial⟩ rfl ?_
  conv => whnf
  refine CallK.flat [] (f48 b hb) ⟨.same, trivial⟩ rfl ?_
  conv => whnf
  refine ⟨⟨by unfold inI64; omega⟩, ?_⟩
  conv => whnf
  refine ⟨fun hc => ?_, fun hc => ?_⟩
  · have hc := of_decide_eq_true hc
    conv => whnf
    refine ⟨⟨by unfold inI64; omega⟩, ?_⟩
    conv => whnf
    refine done_int _ _ _ rfl rfl ?_
    simp only [w16]; unfold addC; split <;> omega
  · have hc := of_decide_eq_false hc
    conv => whnf
    refine done_int _ _ _ rfl rfl ?_
    simp only [w16]; unfold addC; split <;> omega
theorem f32 (l : List Int) (hl : l.length < 2 ^ 62) (hw : ∀ x ∈ l, W x) : PureCall Try.prog 32 [.pv (sq 23 .u16 l)] (i16 (ck l)) := by
  refine PureCall.run tab_ok mixed (by kernel_rfl) Try.func32 rfl rfl rfl ?_
  conv => whnf
  refine ex_loop tab_ok mixed (fun i => i ≤ l.length) (fun i : Nat => mkSt 18 [(0, .pv (sq 23 .u16 l)), (3, i16 (ck (l.take i))), (4, i64 i)] []) (fun i => l.length - i) 0 (Nat.zero_le _) (SubS.mk [] rfl ?_ trivial) fun i hi => ?_
  · exact ⟨⟨_, rfl, .same⟩, ⟨_, rfl, .same⟩, ⟨_, rfl, .same⟩, trivial⟩
  conv => whnf
  refine ⟨fun hc => ?_, fun hc => ?_⟩
  · have hc := of_decide_eq_true hc
    have hlt : i < l.length := by omega
    conv => whnf
    refine ⟨⟨by omega, hc, rfl⟩, ?_⟩
    conv => whnf
    refine ⟨⟨Nat.le_refl _⟩, ?_⟩
    conv => whnf
    refine CallK.flat [] (f40 _ _ (ck_W _) (allR_getD hw hlt)) ⟨.same, .same, trivial⟩ rfl ?_
    conv => whnf
    refine ⟨⟨by unfold inI64; omega⟩, ?_⟩
    conv => whnf
    refine ⟨i + 1, hlt, SubS.mk [] rfl ⟨⟨_, rfl, .same⟩, ⟨_, rfl, .int ?_⟩, ⟨_, rfl, .same⟩, trivial⟩ trivial, by omega⟩
    rw [ck_take hlt]
  · have hc := of_decide_eq_false hc
    conv => whnf
    refine done_int _ _ _ rfl rfl ?_
    rw [List.take_of_length_le (by omega)]
end Go.Proofs.Ytncmpjpmcliomaa

namespace Go.Proofs.Ytncmpjpmcliomaa
open Go Go.AM
attribute [local irreducible] AWP CallK PureCall SubS
def wval (l : List Int) : Int := l.foldl (fun w b => 2 * w + b) 0
theorem wval_snoc (l : List Int) (b : Int) : wval (l ++ [b]) = 2 * wval l + b := by simp [wval]
theorem wval_lt : ∀ (l : List Int), (∀ x ∈ l, 0 ≤ x ∧ x < 2) → 0 ≤ wval l ∧ wval l < 2 ^ l.length := by
  have : ∀ (l : List Int) (n : Nat) (s : Int), (∀ x ∈ l, 0 ≤ x ∧ x < 2) → 0 ≤ s ∧ s < 2 ^ n → 0 ≤ l.foldl (fun w b => 2 * w + b) s ∧ l.foldl (fun w b => 2 * w + b) s < 2 ^ (n + l.length) := by
    intro l
    induction l with
    | nil => intro n s _ h; simpa using h
    | cons x l ih =>
      intro n s hl h
      have hx := hl x (List.mem_cons_self ..)
      have := ih (n + 1) (2 * s + x) (fun y hy => hl y (List.mem_cons_of_mem _ hy)) ⟨by omega, by rw [Int.pow_succ]; omega⟩
      rw [show n + (x :: l).length = n + 1 + l.length by simp; omega]
      exact this
  intro l h
  have := this l 0 0 h ⟨by decide, by decide⟩
  simpa [wval] using this
def sumI (l : List Int) : Int := l.foldl (· + ·) 0
theorem sumI_snoc (l : List Int) (b : Int) : sumI (l ++ [b]) = sumI l + b := by simp [sumI]
theorem sumI_bd : ∀ (l : List Int), (∀ x ∈ l, 0 ≤ x ∧ x < 2) → 0 ≤ sumI l ∧ sumI l ≤ l.length := by
  have : ∀ (l : List Int) (s : Int), (∀ x ∈ l, 0 ≤ x ∧ x < 2) → s ≤ l.foldl (· + ·) s ∧ l.foldl (· + ·) s ≤ s + l.length := by
    intro l
    induction l with
    | nil => intro s _; simp
    | cons x l ih =>
      intro s hl
      have hx := hl x (List.mem_cons_self ..)
      have := ih (s + x) (fun y hy => hl y (List.mem_cons_of_mem _ hy))
      simp only [List.foldl_cons, List.length_cons]; omega
  intro l h
  have := this l 0 h
  simp only [sumI]; omega
def goodB (l : List Int) : Bool := l.length == 17 && l.all (fun x => decide (x < 2)) && sumI l % 2 == 1
def wordS (l : List Int) : Int × Bool × Bool := bif goodB l then (wval ((l.take 16).drop 1), l.getD 0 0 == 1, true) else (0, false, false)
def wordV (p : Int × Bool × Bool) : AV := tupV [i16 p.1, bb p.2.1, bb p.2.2]
theorem xorBit {a b : Int} (ha : 0 ≤ a ∧ a < 2) (hb : 0 ≤ b ∧ b < 2) : bitsOf .xor .u8 a b = (a + b) % 2 := by
  have h1 : a = 0 ∨ a = 1 := by omega
  have h2 : b = 0 ∨ b = 1 := by omega
  rcases h1 with rfl | rfl <;> rcases h2 with rfl | rfl <;> decide
theorem bad_bit {l : List Int} {i : Nat} (h : i < l.length) (hb : ¬ l.getD i 0 < 2) : goodB l = false := by
  have : l.all (fun x => decide (x < 2)) = false := by
    rw [List.all_eq_false]
    rw [List.getD_eq_getElem?_getD, List.getElem?_eq_getElem h, Option.getD_some] at hb
    exact ⟨l[i], List.getElem_mem h, by simpa using hb⟩
  simp [goodB, this]
theorem take_bits {l : List Int} (hl : ∀ x ∈ l, 0 ≤ x ∧ x < 256) {i : Nat} (h : ∀ j, j < i → j < l.length → l.getD j 0 < 2) : ∀ x ∈ l.take i, 0 ≤ x ∧ x < 2 := by
  intro x hx
  obtain ⟨j, hj, rfl⟩ := List.mem_iff_getElem.mp hx
  simp only [List.length_take] at hj
  have h1 := h j (by omega) (by omega)
  have h2 := hl l[j] (List.getElem_mem (by omega))
  rw [List.getD_eq_getElem?_getD, List.getElem?_eq_getElem (by omega), Option.getD_some] at h1
  simp only [List.getElem_take]
  exact ⟨h2.1, h1⟩
def wAt (l : List Int) (i : Nat) : Int := wval ((l.take (min i 16)).drop 1)
theorem wAt_step {l : List Int} {i : Nat} (h0 : 0 < i) (h1 : i < 16) (h : i < l.length) : wAt l (i + 1) = 2 * wAt l i + l.getD i 0 := by
  unfold wAt
  rw [show min (i + 1) 16 = i + 1 by omega, show min i 16 = i by omega, take_succ_getD h, List.drop_append_of_le_length (by simp; omega), wval_snoc]
theorem wAt_bd {l : List Int} (hl : ∀ x ∈ l, 0 ≤ x ∧ x < 256) {i : Nat} (h : ∀ j, j < i → j < l.length → l.getD j 0 < 2) : 0 ≤ wAt l i ∧ wAt l i < 32768 := by
  have h1 := take_bits hl h
  have h2 := wval_lt ((l.take (min i 16)).drop 1) (fun x hx => h1 x (List.take_subset_take_left _ (by omega) (List.mem_of_mem_drop hx)))
  refine ⟨h2.1, Int.lt_of_lt_of_le h2.2 ?_⟩
  have h3 : ((l.take (min i 16)).drop 1).length ≤ 15 := by simp; omega
  have : (2 : Int) ^ ((l.take (min i 16)).drop 1).length ≤ 2 ^ 15 := by
    have := Nat.pow_le_pow_right (n := 2) (by decide) h3
    exact_mod_cast this
  exact this
theorem f18 (l : List Int) (_hl : l.length < 2 ^ 62) (hw : ∀ x ∈ l, 0 ≤ x ∧ x < 256) : PureCall Try.prog 18 [.pv (sq 5 .u8 l)] (wordV (wordS l)) := by
  refine PureCall.run tab_ok mixed (by kernel_rfl) Try.func18 rfl rfl rfl ?_
  conv => whnf
  refine ⟨fun hc => ?_, fun hc => ?_⟩
  · have hlen : ¬ l.length = 17 := by intro e; simp [e] at hc
    conv => whnf
    refine done_tup _ [] rfl ?_
    have : goodB l = false := by simp [goodB, hlen]
    simp only [wordS, this, cond_false]
    exact ⟨.same, .same, .same, trivial⟩
  have hlen : l.length = 17 := by simp at hc; omega
  conv => whnf
  refine ex_loop tab_ok mixed (fun i => i ≤ 17 ∧ ∀ j, j < i → j < l.length → l.getD j 0 < 2) (fun i : Nat => mkSt 42 [(0, .pv (sq 5 .u8 l)), (11, .pv (sq 5 .u8 l)), (12, i64 l.length), (13, i64 i), (5, u8 (sumI (l.take i) % 2)), (2, i16 (wAt l i))] []) (fun i => 17 - i) 0 ⟨by omega, fun j hj => by omega⟩ (SubS.mk [] rfl ?_ trivial) fun i hi => ?_
  · exact ⟨⟨_, rfl, .same⟩, ⟨_, rfl, .same⟩, ⟨_, rfl, .same⟩, ⟨_, rfl, .same⟩, ⟨_, rfl, .same⟩, ⟨_, rfl, .same⟩, trivial⟩
  obtain ⟨hi, hbits⟩ := hi
  conv => whnf
  refine ⟨fun hc => ?_, fun hc => ?_⟩
  · have hc := of_decide_eq_true hc
    have hlt : i < l.length := by omega
    have hr := allR_getD hw hlt
    conv => whnf
    refine ⟨⟨by omega, hc, rfl⟩, ?_⟩
    conv => whnf
    refine ⟨⟨Nat.le_refl _⟩, ?_⟩
    conv => whnf
    refine ⟨fun hb => ?_, fun hb => ?_⟩
    · have hb : 2 ≤ l.getD i 0 := of_decide_eq_true hb
      conv => whnf
      refine done_tup _ [] rfl ?_
      simp only [wordS, bad_bit hlt (by omega), cond_false]
      exact ⟨.same, .same, .same, trivial⟩
    · have hb : ¬ 2 ≤ l.getD i 0 := of_decide_eq_false hb
      have hbits' : ∀ j, j < i + 1 → j < l.length → l.getD j 0 < 2 := fun j hj hjl => by
        by_cases he : j = i
        · subst he; omega
        · exact hbits j (by omega) hjl
      have hs : sumI (l.take (i + 1)) % 2 = bitsOf .xor .u8 (sumI (l.take i) % 2) (l.getD i 0) := by
        rw [xorBit (by omega) (by omega), take_succ_getD hlt, sumI_snoc]; omega
      conv => whnf
      refine ⟨fun h0 => ?_, fun h0 => ?_⟩
      · have h0 := of_decide_eq_true h0
        conv => whnf
        refine ⟨fun _ => ?_, fun h => by cases h⟩
        conv => whnf
        refine ⟨fun h1 => ?_, fun h1 => ?_⟩
        · have h1 := of_decide_eq_true h1
          conv => whnf
          refine ⟨⟨by decide⟩, ?_⟩
          conv => whnf
          refine ⟨⟨by unfold inI64; omega⟩, ?_⟩
          conv => whnf
          refine ⟨i + 1, ⟨by omega, hbits'⟩, SubS.mk [] rfl ⟨⟨_, rfl, .same⟩, ⟨_, rfl, .same⟩, ⟨_, rfl, .same⟩, ⟨_, rfl, .same⟩, ⟨_, rfl, .int hs.symm⟩, ⟨_, rfl, .int ?_⟩, trivial⟩ trivial, by omega⟩
          have hb := wAt_bd hw (i := i) hbits
          rw [wAt_step (by omega) (by omega) hlt]
          have e1 : IntKind.u16.wrap (wAt l i * 2 ^ min (1 : Int).toNat IntKind.u16.bits) = 2 * wAt l i := by
            rw [w16]; show (wAt l i * 2 ^ 1) % 65536 = _; omega
          have e2 : IntKind.u16.wrap (l.getD i 0) = l.getD i 0 := by rw [w16]; omega
          show bitsOf .or .u16 (IntKind.u16.wrap (wAt l i * 2 ^ min (1 : Int).toNat IntKind.u16.bits)) (IntKind.u16.wrap (l.getD i 0)) = _
          rw [e1, e2]
          exact orBit rfl hb.1 hr.1 (by omega) (by show 2 * wAt l i + 1 < 65536; omega)
        · have h1 := of_decide_eq_false h1
          conv => whnf
          refine ⟨⟨by unfold inI64; omega⟩, ?_⟩
          conv => whnf
          refine ⟨i + 1, ⟨by omega, hbits'⟩, SubS.mk [] rfl ⟨⟨_, rfl, .same⟩, ⟨_, rfl, .same⟩, ⟨_, rfl, .same⟩, ⟨_, rfl, .same⟩, ⟨_, rfl, .int hs.symm⟩, ⟨_, rfl, .int ?_⟩, trivial⟩ trivial, by omega⟩
          show wAt l i = wAt l (i + 1)
          unfold wAt
          rw [show min (i + 1) 16 = 16 by omega, show min i 16 = 16 by omega]
      · have h0 := of_decide_eq_false h0
        conv => whnf
        refine ⟨fun h => (by cases h), fun _ => ?_⟩
        conv => whnf
        refine ⟨fun h => (by cases h), fun _ => ?_⟩
        conv => whnf
        refine ⟨⟨by unfold inI64; omega⟩, ?_⟩
        conv => whnf
        refine ⟨i + 1, ⟨by omega, hbits'⟩, SubS.mk [] rfl ⟨⟨_, rfl, .same⟩, ⟨_, rfl, .same⟩, ⟨_, rfl, .same⟩, ⟨_, rfl, .same⟩, ⟨_, rfl, .int hs.symm⟩, ⟨_, rfl, .int ?_⟩, trivial⟩ trivial, by omega⟩
        have : i = 0 := by omega
        subst this
        show wAt l 0 = wAt l 1
        simp [wAt]
  · have hc := of_decide_eq_false hc
    have hall : l.all (fun x => decide (x < 2)) = true := by
      rw [List.all_eq_true]
      intro x hx
      obtain ⟨j, hj, rfl⟩ := List.mem_iff_getElem.mp hx
      have := hbits j (by omega) hj
      rw [List.getD_eq_getElem?_getD, List.getElem?_eq_getElem hj, Option.getD_some] at this
      simpa using this
    have htk : l.take i = l := List.take_of_length_le (by omega)
    refine ⟨fun hs => ?_, fun hs => ?_⟩
    · conv => whnf
      refine done_tup _ [] rfl ?_
      have : goodB l = false := by
        rw [htk] at hs
        have hs := eq_of_beq hs
        simp [goodB, hs]
      simp only [wordS, this, cond_false]
      exact ⟨.same, .same, .same, trivial⟩
    · have hg : goodB l = true := by
        rw [htk] at hs
        have hs : ¬ sumI l % 2 = 0 := by intro e; rw [e] at hs; cases hs
        have : sumI l % 2 = 1 := by omega
        simp [goodB, hlen, hall, this]
      conv => whnf
      refine ⟨⟨by omega, by omega, rfl⟩, ?_⟩
      conv => whnf
      refine ⟨⟨Nat.le_refl _⟩, ?_⟩
      conv => whnf
      refine ⟨rfl, ?_⟩
      conv => whnf
      refine done_tup _ [] rfl ?_
      simp only [wordS, hg, cond_true]
      refine ⟨.int ?_, .same, .same, trivial⟩
      show wAt l i = _
      unfold wAt
      rw [show min i 16 = 16 by omega]
end Go.Proofs.Ytncmpjpmcliomaa

namespace Go.Proofs.Ytncmpjpmcliomaa
open Go Go.AM
attribute [local irreducible] AWP CallK PureCall SubS
theorem f19 (l : List Int) (_hl : l.length < 2 ^ 62) (hw : ∀ x ∈ l, 0 ≤ x ∧ x < 256) : PureCall Try.prog 19 [.pv (sq 5 .u8 l)] (wordV (wordS l)) := by
  refine PureCall.run tab_ok mixed (by kernel_rfl) Try.func19 rfl rfl rfl ?_
  conv => whnf
  refine ⟨fun hc => ?_, fun hc => ?_⟩
  · have hlen : ¬ l.length = 17 := by intro e; simp [e] at hc
    conv => whnf
    refine done_tup _ [] rfl ?_
    have : goodB l = false := by simp [goodB, hlen]
    simp only [wordS, this, cond_false]
    exact ⟨.same, .same, .same, trivial⟩
  have hlen : l.length = 17 := by simp at hc; omega
  conv => whnf
  refine ex_loop tab_ok mixed (fun i => i ≤ 17 ∧ ∀ j, j < i → j < l.length → l.getD j 0 < 2) (fun i : Nat => mkSt 50 [(0, .pv (sq 5 .u8 l)), (7, i64 i), (5, i64 (sumI (l.take i))), (6, i64 (wAt l i))] []) (fun i => 17 - i) 0 ⟨by omega, fun j hj => by omega⟩ (SubS.mk [] rfl ?_ trivial) fun i hi => ?_
  · exact ⟨⟨_, rfl, .same⟩, ⟨_, rfl, .same⟩, ⟨_, rfl, .same⟩, ⟨_, rfl, .same⟩, trivial⟩
  obtain ⟨hi, hbits⟩ := hi
  have hsum := sumI_bd (l.take i) (take_bits hw hbits)
  have hsl : (l.take i).length ≤ 17 := by simp; omega
  have hwb := wAt_bd hw (i := i) hbits
  conv => whnf
  refine ⟨fun hc => ?_, fun hc => ?_⟩
  · have hc := of_decide_eq_true hc
    have hlt : i < l.length := by omega
    have hr := allR_getD hw hlt
    have e2 : IntKind.i64.wrap (l.getD i 0) = l.getD i 0 := wi64 (by omega) (by omega)
    conv => whnf
    refine ⟨⟨by omega, by omega, rfl⟩, ?_⟩
    conv => whnf
    refine ⟨⟨Nat.le_refl _⟩, ?_⟩
    conv => whnf
    refine ⟨fun hb => ?_, fun hb => ?_⟩
    · have hb : 1 < l.getD i 0 := of_decide_eq_true hb
      conv => whnf
      refine done_tup _ [] rfl ?_
      simp only [wordS, bad_bit hlt (by omega), cond_false]
      exact ⟨.same, .same, .same, trivial⟩
    · have hb : ¬ 1 < l.getD i 0 := of_decide_eq_false hb
      have hbits' : ∀ j, j < i + 1 → j < l.length → l.getD j 0 < 2 := fun j hj hjl => by
        by_cases he : j = i
        · subst he; omega
        · exact hbits j (by omega) hjl
      have hs : sumI (l.take i) + IntKind.i64.wrap (l.getD i 0) = sumI (l.take (i + 1)) := by
        rw [take_succ_getD hlt, sumI_snoc, e2]
      conv => whnf
      refine ⟨⟨by omega, by omega, rfl⟩, ?_⟩
      conv => whnf
      refine ⟨⟨Nat.le_refl _⟩, ?_⟩
      conv => whnf
      refine ⟨⟨show inI64 (sumI (l.take i) + IntKind.i64.wrap (l.getD i 0)) by rw [e2]; unfold inI64; omega⟩, ?_⟩
      conv => whnf
      refine ⟨fun h0 => ?_, fun h0 => ?_⟩
      · have h0 := of_decide_eq_true h0
        conv => whnf
        refine ⟨fun _ => ?_, fun h => by cases h⟩
        conv => whnf
        refine ⟨fun h1 => ?_, fun h1 => ?_⟩
        · have h1 := of_decide_eq_true h1
          conv => whnf
          refine ⟨⟨show inI64 (2 * wAt l i) by unfold inI64; omega⟩, ?_⟩
          conv => whnf
          refine ⟨⟨by omega, by omega, rfl⟩, ?_⟩
          conv => whnf
          refine ⟨⟨Nat.le_refl _⟩, ?_⟩
          conv => whnf
          refine ⟨⟨show inI64 (2 * wAt l i + IntKind.i64.wrap (l.getD i 0)) by rw [e2]; unfold inI64; omega⟩, ?_⟩
          conv => whnf
          refine ⟨⟨by unfold inI64; omega⟩, ?_⟩
          conv => whnf
          refine ⟨i + 1, ⟨by omega, hbits'⟩, SubS.mk [] rfl ⟨⟨_, rfl, .same⟩, ⟨_, rfl, .same⟩, ⟨_, rfl, .int hs⟩, ⟨_, rfl, .int ?_⟩, trivial⟩ trivial, by omega⟩
          show 2 * wAt l i + IntKind.i64.wrap (l.getD i 0) = _
          rw [wAt_step (by omega) (by omega) hlt, e2]
        · have h1 := of_decide_eq_false h1
          conv => whnf
          refine ⟨⟨by unfold inI64; omega⟩, ?_⟩
          conv => whnf
          refine ⟨i + 1, ⟨by omega, hbits'⟩, SubS.mk [] rfl ⟨⟨_, rfl, .same⟩, ⟨_, rfl, .same⟩, ⟨_, rfl, .int hs⟩, ⟨_, rfl, .int ?_⟩, trivial⟩ trivial, by omega⟩
          show wAt l i = wAt l (i + 1)
          unfold wAt
          rw [show min (i + 1) 16 = 16 by omega, show min i 16 = 16 by omega]
      · have h0 := of_decide_eq_false h0
        conv => whnf
        refine ⟨fun h => (by cases h), fun _ => ?_⟩
        conv => whnf
        refine ⟨fun h => (by cases h), fun _ => ?_⟩
        conv => whnf
        refine ⟨⟨by unfold inI64; omega⟩, ?_⟩
        conv => whnf
        refine ⟨i + 1, ⟨by omega, hbits'⟩, SubS.mk [] rfl ⟨⟨_, rfl, .same⟩, ⟨_, rfl, .same⟩, ⟨_, rfl, .int hs⟩, ⟨_, rfl, .int ?_⟩, trivial⟩ trivial, by omega⟩
        have : i = 0 := by omega
        subst this
        show wAt l 0 = wAt l 1
        simp [wAt]
  · have hc := of_decide_eq_false hc
    have hall : l.all (fun x => decide (x < 2)) = true := by
      rw [List.all_eq_true]
      intro x hx
      obtain ⟨j, hj, rfl⟩ := List.mem_iff_getElem.mp hx
      have := hbits j (by omega) hj
      rw [List.getD_eq_getElem?_getD, List.getElem?_eq_getElem hj, Option.getD_some] at this
      simpa using this
    have htk : l.take i = l := List.take_of_length_le (by omega)
    conv => whnf
    refine ⟨⟨by decide⟩, ?_⟩
    conv => whnf
    refine ⟨fun hs => ?_, fun hs => ?_⟩
    · conv => whnf
      refine done_tup _ [] rfl ?_
      have : goodB l = false := by
        have hs : (sumI (l.take i)).tmod 2 = 0 := eq_of_beq hs
        rw [Int.tmod_eq_emod_of_nonneg hsum.1, htk] at hs
        simp [goodB, hs]
      simp only [wordS, this, cond_false]
      exact ⟨.same, .same, .same, trivial⟩
    · have hg : goodB l = true := by
        have hs : ¬ (sumI (l.take i)).tmod 2 = 0 := by intro e; replace hs : ((sumI (l.take i)).tmod 2 == 0) = false := hs; rw [e] at hs; cases hs
        rw [Int.tmod_eq_emod_of_nonneg hsum.1, htk] at hs
        have : sumI l % 2 = 1 := by omega
        simp [goodB, hlen, hall, this]
      conv => whnf
      refine ⟨⟨by omega, by omega, rfl⟩, ?_⟩
      conv => whnf
      refine ⟨⟨Nat.le_refl _⟩, ?_⟩
      conv => whnf
      refine ⟨rfl, ?_⟩
      conv => whnf
      refine done_tup _ [] rfl ?_
      simp only [wordS, hg, cond_true]
      refine ⟨.int ?_, .same, .same, trivial⟩
      show IntKind.u16.wrap (wAt l i) = _
      rw [w16]
      have : wAt l i % 65536 = wAt l i := by omega
      rw [this]
      unfold wAt
      rw [show min i 16 = 16 by omega]
end Go.Proofs.Ytncmpjpmcliomaa

namespace Go.Proofs.Ytncmpjpmcliomaa
open Go Go.AM
attribute [local irreducible] AWP CallK PureCall SubS
def mxI (l : List Int) : Int := l.foldl (fun a b => if b > a then b else a) 0
theorem mxI_snoc (l : List Int) (b : Int) : mxI (l ++ [b]) = if b > mxI l then b else mxI l := by simp [mxI]
theorem mxI_gt : ∀ (l : List Int), 32767 < mxI l ↔ ∃ x ∈ l, 32767 < x := by
  have : ∀ (l : List Int) (s : Int), 32767 < l.foldl (fun a b => if b > a then b else a) s ↔ 32767 < s ∨ ∃ x ∈ l, 32767 < x := by
    intro l
    induction l with
    | nil => intro s; simp
    | cons x l ih =>
      intro s
      rw [List.foldl_cons, ih]
      simp only [List.mem_cons, exists_eq_or_imp]
      by_cases h : x > s
      · rw [if_pos h]; constructor
        · rintro (h | h); exact .inr (.inl h); exact .inr (.inr h)
        · rintro (h' | h' | h'); exact .inl (by omega); exact .inl h'; exact .inr h'
      · rw [if_neg h]; constructor
        · rintro (h | h); exact .inl h; exact .inr (.inr h)
        · rintro (h' | h' | h'); exact .inl h'; exact .inl (by omega); exact .inr h'
  intro l
  have := this l 0
  simpa [mxI] using this
theorem f30 (l : List Int) (h0 : 0 < l.length) (hl : l.length < 2 ^ 62) (hw : ∀ x ∈ l, W x) : PureCall Try.prog 30 [.pv (sq 23 .u16 l)] (i16 (mxI l)) := by
  refine PureCall.run tab_ok mixed (by kernel_rfl) Try.func30 rfl rfl rfl ?_
  conv => whnf
  refine ⟨fun hc => ?_, fun hc => ?_⟩
  · have hc := of_decide_eq_true hc
    omega
  conv => whnf
  refine ⟨⟨by omega, by omega, rfl⟩, ?_⟩
  conv => whnf
  refine ⟨⟨Nat.le_refl _⟩, ?_⟩
  conv => whnf
  refine ex_loop tab_ok mixed (fun i => 1 ≤ i ∧ i ≤ l.length) (fun i : Nat => mkSt 25 [(0, .pv (sq 23 .u16 l)), (3, i16 (mxI (l.take i))), (4, i64 i)] []) (fun i => l.length - i) 1 ⟨by omega, by omega⟩ (SubS.mk [] rfl ?_ trivial) fun i hi => ?_
  · refine ⟨⟨_, rfl, .same⟩, ⟨_, rfl, .int ?_⟩, ⟨_, rfl, .same⟩, trivial⟩
    have := allR_getD hw h0
    rw [take_succ_getD h0, mxI_snoc]
    show l.getD 0 0 = if l.getD 0 0 > 0 then _ else 0
    split <;> omega
  obtain ⟨h1, hi⟩ := hi
  conv => whnf
  refine ⟨fun hc => ?_, fun hc => ?_⟩
  · have hc := of_decide_eq_true hc
    have hlt : i < l.length := by omega
    conv => whnf
    refine ⟨⟨by omega, hc, rfl⟩, ?_⟩
    conv => whnf
    refine ⟨⟨Nat.le_refl _⟩, ?_⟩
    conv => whnf
    refine ⟨⟨by unfold inI64; omega⟩, ?_⟩
    conv => whnf
    refine ⟨i + 1, ⟨by omega, hlt⟩, SubS.mk [] rfl ⟨⟨_, rfl, .same⟩, ⟨_, rfl, .int ?_⟩, ⟨_, rfl, .same⟩, trivial⟩ trivial, by omega⟩
    rw [take_succ_getD hlt, mxI_snoc]; rfl
  · have hc := of_decide_eq_false hc
    conv => whnf
    refine done_int _ _ _ rfl rfl ?_
    rw [List.take_of_length_le (by omega)]
theorem eq_of_getD {a b : List Int} (hl : a.length = b.length) (h : ∀ i, i < a.length → a.getD i 0 = b.getD i 0) : a = b := by
  apply List.ext_getElem hl
  intro i h1 h2
  have := h i h1
  simpa [List.getD_eq_getElem?_getD, h1, h2] using this
theorem f16 (a b : List Int) (hl : a.length < 2 ^ 62) (hm : b.length < 2 ^ 62) : PureCall Try.prog 16 [.pv (sq 23 .u16 a), .pv (sq 23 .u16 b)] (bb (decide (a = b))) := by
  refine PureCall.run tab_ok mixed (by kernel_rfl) Try.func16 rfl rfl rfl ?_
  conv => whnf
  refine ⟨fun hc => ?_, fun hc => ?_⟩
  · conv => whnf
    refine done_bool _ _ rfl rfl (Eq.symm (decide_eq_false fun e => ?_))
    subst e; simp at hc
  have hlen : a.length = b.length := by simp at hc; omega
  conv => whnf
  refine ex_loop tab_ok mixed (fun i => i ≤ a.length ∧ ∀ j, j < i → a.getD j 0 = b.getD j 0) (fun i : Nat => mkSt 26 [(0, .pv (sq 23 .u16 a)), (1, .pv (sq 23 .u16 b)), (5, i64 i)] []) (fun i => a.length - i) 0 ⟨by omega, fun j hj => by omega⟩ (SubS.mk [] rfl ?_ trivial) fun i hi => ?_
  · exact ⟨⟨_, rfl, .same⟩, ⟨_, rfl, .same⟩, ⟨_, rfl, .same⟩, trivial⟩
  obtain ⟨hi, hq⟩ := hi
  conv => whnf
  refine ⟨fun hc => ?_, fun hc => ?_⟩
  · have hc := of_decide_eq_true hc
    have hlt : i < a.length := by omega
    conv => whnf
    refine ⟨⟨by omega, hc, rfl⟩, ?_⟩
    conv => whnf
    refine ⟨⟨Nat.le_refl _⟩, ?_⟩
    conv => whnf
    refine ⟨⟨by omega, by omega, rfl⟩, ?_⟩
    conv => whnf
    refine ⟨⟨Nat.le_refl _⟩, ?_⟩
    conv => whnf
    refine ⟨rfl, ?_⟩
    conv => whnf
    refine ⟨fun he => ?_, fun he => ?_⟩
    · have he : (a.getD i 0 != b.getD i 0) = true := he
      conv => whnf
      refine done_bool _ _ rfl rfl (Eq.symm (decide_eq_false fun e => ?_))
      subst e; simp at he
    · have he : (a.getD i 0 != b.getD i 0) = false := he
      conv => whnf
      refine ⟨⟨by unfold inI64; omega⟩, ?_⟩
      conv => whnf
      refine ⟨i + 1, ⟨by omega, fun j hj => ?_⟩, SubS.mk [] rfl ⟨⟨_, rfl, .same⟩, ⟨_, rfl, .same⟩, ⟨_, rfl, .same⟩, trivial⟩ trivial, by omega⟩
      by_cases hji : j = i
      · subst hji; exact of_decide_eq_true (by simpa using he)
      · exact hq j (by omega)
  · have hc := of_decide_eq_false hc
    conv => whnf
    refine done_bool _ _ rfl rfl (Eq.symm (decide_eq_true ?_))
    exact eq_of_getD hlen fun j hj => hq j (by omega)
end Go.Proofs.Ytncmpjpmcliomaa

namespace Go.Proofs.Ytncmpjpmcliomaa
open Go Go.AM
attribute [local irreducible] AWP CallK PureCall SubS
def sw (l : List Int) : PV := sq 23 .u16 l
def sb (l : List Int) : PV := sq 5 .u8 l
def listV (id : Int) (d : List Int) : AV := .agg 2 fun i => .pv (bif Nat.beq i 0 then .int .u16 id else sw d)
def wordsS (id : Int) (d : List Int) : List Int × Int :=
  if d.length < 18 then ([], 9) else if 18 < d.length then ([], 4) else if ∃ x ∈ id :: d, 32767 < x then ([], 3) else (id :: d ++ [ck (id :: d)], 0)
def wordsV (p : List Int × Int) : AV := tupV [.pv (sw p.1), i64 p.2]
theorem f12 (id : Int) (d : List Int) (hid : W id) (hd : ∀ x ∈ d, W x) (hl : d.length < 2 ^ 62) : PureCall Try.prog 12 [listV id d] (wordsV (wordsS id d)) := by
  have hw : ∀ x ∈ id :: d, W x := fun x hx => by
    rcases List.mem_cons.mp hx with rfl | hx
    · exact hid
    · exact hd x hx
  refine PureCall.run tab_ok mixed (by kernel_rfl) Try.func12 rfl rfl rfl ?_
  conv => whnf
  repeat (refine ⟨⟨rfl, rfl, nle rfl, nle rfl⟩, ?_⟩; conv => whnf)
  refine ⟨fun hc => ?_, fun hc => ?_⟩
  · have hc := of_decide_eq_true hc
    conv => whnf
    refine done_tup _ [] rfl ?_
    simp only [wordsS, if_pos (show d.length < 18 by omega)]
    exact ⟨.nilL, .same, trivial⟩
  have h1 := of_decide_eq_false hc
  conv => whnf
  repeat (refine ⟨⟨rfl, rfl, nle rfl, nle rfl⟩, ?_⟩; conv => whnf)
  refine ⟨fun hc => ?_, fun hc => ?_⟩
  · have hc := of_decide_eq_true hc
    conv => whnf
    refine done_tup _ [] rfl ?_
    simp only [wordsS, if_neg (show ¬ d.length < 18 by omega), if_pos (show 18 < d.length by omega)]
    exact ⟨.nilL, .same, trivial⟩
  have h2 := of_decide_eq_false hc
  have hlen : d.length = 18 := by omega
  conv => whnf
  refine ⟨⟨by omega, by omega, by decide, by decide⟩, ?_⟩
  conv => whnf
  repeat (refine ⟨⟨rfl, rfl, nle rfl, nle rfl⟩, ?_⟩; conv => whnf)
  refine ⟨⟨⟨rfl, rfl, rfl, nle rfl⟩, rfl, rfl, rfl, rfl, rfl, rfl, nle rfl⟩, ?_⟩
  conv => whnf
  repeat (refine ⟨⟨rfl, rfl, nle rfl, nle rfl⟩, ?_⟩; conv => whnf)
  refine ⟨⟨rfl, rfl, rfl, rfl, rfl, rfl, rfl, show (1 + d.length) * 2 ≤ 140737488355328 by omega⟩, ?_⟩
  conv => whnf
  have hL : (id :: d).length = 1 + d.length := by simp; omega
  refine CallK.flat [15] (f30 (id :: d) (by simp) (by simp; omega) hw) ⟨.frz0 _ rfl rfl rfl rfl rfl (Nat.le_refl _) hL.symm ?_, trivial⟩ rfl ?_
  · try dsimp only
    refine IsL.cat' [id] d rfl rfl rfl ?_ IsL.seq
    try dsimp only
    refine IsL.cat' [] [id] rfl rfl rfl IsL.nil ?_
    exact IsL.one rfl
  conv => whnf
  refine ⟨fun hc => ?_, fun hc => ?_⟩
  · have hc := of_decide_eq_true hc
    conv => whnf
    refine done_tup _ [] rfl ?_
    simp only [wordsS, if_neg (show ¬ d.length < 18 by omega), if_neg (show ¬ 18 < d.length by omega), if_pos ((mxI_gt _).mp hc)]
    exact ⟨.nilL, .same, trivial⟩
  have hc := of_decide_eq_false hc
  conv => whnf
  refine CallK.flat [15] (f31 (id :: d) (by simp; omega) hw) ⟨.frz0 _ rfl rfl rfl rfl rfl (Nat.le_refl _) hL.symm ?_, trivial⟩ rfl ?_
  · try dsimp only
    refine IsL.cat' [id] d rfl rfl rfl ?_ IsL.seq
    try dsimp only
    refine IsL.cat' [] [id] rfl rfl rfl IsL.nil ?_
    exact IsL.one rfl
  conv => whnf
  refine ⟨⟨⟨rfl, rfl, rfl, nle rfl⟩, rfl, rfl, rfl, rfl, rfl, rfl, show (1 + d.length + 1) * 2 ≤ 140737488355328 by omega⟩, ?_⟩
  conv => whnf
  refine done_tup _ [15] rfl ?_
  simp only [wordsS, if_neg (show ¬ d.length < 18 by omega), if_neg (show ¬ 18 < d.length by omega), if_neg (fun h => hc ((mxI_gt _).mpr h))]
  refine ⟨.frz0 _ rfl rfl rfl rfl rfl (Nat.le_refl _) (show 1 + d.length + 1 = (id :: d ++ [ck (id :: d)]).length by simp; omega) ?_, .same, trivial⟩
  try dsimp only
  refine IsL.cat' (id :: d) [ck (id :: d)] rfl rfl hL.symm ?_ (IsL.one rfl)
  try dsimp only
  refine IsL.cat' [id] d rfl rfl rfl ?_ IsL.seq
  try dsimp only
  refine IsL.cat' [] [id] rfl rfl rfl IsL.nil ?_
  exact IsL.one rfl
end Go.Proofs.Ytncmpjpmcliomaa

namespace Go.Proofs.Ytncmpjpmcliomaa
open Go Go.AM
attribute [local irreducible] AWP CallK PureCall SubS
theorem f13 (id : Int) (d : List Int) (hid : W id) (hd : ∀ x ∈ d, W x) (hl : d.length < 2 ^ 62) : PureCall Try.prog 13 [listV id d] (wordsV (wordsS id d)) := by
  have hw : ∀ x ∈ id :: d, W x := fun x hx => by
    rcases List.mem_cons.mp hx with rfl | hx
    · exact hid
    · exact hd x hx
  refine PureCall.run tab_ok mixed (by kernel_rfl) Try.func13 rfl rfl rfl ?_
  conv => whnf
  repeat (refine ⟨⟨rfl, rfl, nle rfl, nle rfl⟩, ?_⟩; conv => whnf)
  refine ⟨fun hc => ?_, fun hc => ?_⟩
  · have hc := of_decide_eq_true hc
    conv => whnf
    refine done_tup _ [] rfl ?_
    simp only [wordsS, if_pos (show d.length < 18 by omega)]
    exact ⟨.nilL, .same, trivial⟩
  have h1 := of_decide_eq_false hc
  conv => whnf
  repeat (refine ⟨⟨rfl, rfl, nle rfl, nle rfl⟩, ?_⟩; conv => whnf)
  refine ⟨fun hc => ?_, fun hc => ?_⟩
  · have hc := of_decide_eq_true hc
    conv => whnf
    refine done_tup _ [] rfl ?_
    simp only [wordsS, if_neg (show ¬ d.length < 18 by omega), if_pos (show 18 < d.length by omega)]
    exact ⟨.nilL, .same, trivial⟩
  have h2 := of_decide_eq_false hc
  have hlen : d.length = 18 := by omega
  have hL : (id :: d).length = 1 + d.length := by simp; omega
  conv => whnf
  repeat (refine ⟨⟨rfl, rfl, nle rfl, nle rfl⟩, ?_⟩; conv => whnf)
  refine ⟨⟨rfl, rfl, rfl, rfl, rfl, rfl, rfl, show (1 + d.length) * 2 ≤ 140737488355328 by omega⟩, ?_⟩
  conv => whnf
  refine ex_loop tab_ok mixed (fun i => i ≤ 19 ∧ ∀ j, j < i → (id :: d).getD j 0 ≤ 32767) (fun i : Nat => mkSt 36 [(4, .row 16 1 1 0 19), (5, i64 i)] [(16, rowL 23 .u16 1 (id :: d))]) (fun i => 19 - i) 0 ⟨by omega, fun j hj => by omega⟩ (SubS.mk [] rfl ?_ ?_) fun i hi => ?_
  · exact ⟨⟨_, rfl, .row _ _ _ _ _ _ _ _ _ rfl rfl rfl (show 1 + d.length = 19 by omega)⟩, ⟨_, rfl, .same⟩, trivial⟩
  · refine ⟨.inl ⟨_, _, rfl, rfl, rfl, OLe.rowL rfl rfl rfl (Nat.le_of_eq hL) ?_⟩, trivial⟩
    try dsimp only
    refine IsL.cat' [id] d rfl rfl rfl ?_ IsL.seq
    exact IsL.one rfl
  obtain ⟨hi, hq⟩ := hi
  conv => whnf
  refine ⟨fun hc => ?_, fun hc => ?_⟩
  · have hc := of_decide_eq_true hc
    have hlt : i < 19 := by omega
    conv => whnf
    refine ⟨⟨by omega, by omega, rfl⟩, ?_⟩
    conv => whnf
    refine ⟨⟨rfl, rfl, by show 0 + (i : Int).toNat < (id :: d).length; omega, nle rfl⟩, ?_⟩
    conv => whnf
    have e0 : 0 + (i : Int).toNat = i := by omega
    refine ⟨fun he => ?_, fun he => ?_⟩
    · have he : 32767 < (id :: d).getD (0 + (i : Int).toNat) 0 := of_decide_eq_true he
      rw [e0] at he
      conv => whnf
      refine done_tup _ [] rfl ?_
      have hex : ∃ x ∈ id :: d, 32767 < x := by
        refine ⟨_, ?_, he⟩
        rw [List.getD_eq_getElem?_getD, List.getElem?_eq_getElem (by omega), Option.getD_some]
        exact List.getElem_mem _
      simp only [wordsS, if_neg (show ¬ d.length < 18 by omega), if_neg (show ¬ 18 < d.length by omega), if_pos hex]
      exact ⟨.nilL, .same, trivial⟩
    · have he : ¬ 32767 < (id :: d).getD (0 + (i : Int).toNat) 0 := of_decide_eq_false he
      rw [e0] at he
      conv => whnf
      refine ⟨⟨by unfold inI64; omega⟩, ?_⟩
      conv => whnf
      refine ⟨i + 1, ⟨by omega, fun j hj => ?_⟩, SubS.mk [] rfl ⟨⟨_, rfl, .row _ _ _ _ _ _ _ _ _ rfl rfl rfl rfl⟩, ⟨_, rfl, .same⟩, trivial⟩ ⟨.inl ⟨_, _, rfl, rfl, rfl, OLe.rowL rfl rfl rfl (Nat.le_refl _) IsL.seq⟩, trivial⟩, by omega⟩
      by_cases hji : j = i
      · subst hji; omega
      · exact hq j (by omega)
  · have hc := of_decide_eq_false hc
    conv => whnf
    refine CallK.flat [16] (f32 (id :: d) (by simp; omega) hw) ⟨.frz0 _ rfl rfl rfl rfl rfl (by show 19 ≤ (id :: d).length; omega) (by omega) IsL.seq, trivial⟩ rfl ?_
    conv => whnf
    refine ⟨⟨⟨rfl, rfl, rfl, nle rfl⟩, rfl, rfl, rfl, rfl, rfl, (by show 19 = (id :: d).length; omega), nle rfl⟩, ?_⟩
    conv => whnf
    refine done_tup _ [16] rfl ?_
    have hn : ¬ ∃ x ∈ id :: d, 32767 < x := by
      rintro ⟨x, hx, hx2⟩
      obtain ⟨j, hj, rfl⟩ := List.mem_iff_getElem.mp hx
      have := hq j (by omega)
      rw [List.getD_eq_getElem?_getD, List.getElem?_eq_getElem hj, Option.getD_some] at this
      omega
    simp only [wordsS, if_neg (show ¬ d.length < 18 by omega), if_neg (show ¬ 18 < d.length by omega), if_neg hn]
    refine ⟨.frz0 _ rfl rfl rfl rfl rfl (Nat.le_refl _) (show 19 + 1 = (id :: d ++ [ck (id :: d)]).length by simp; omega) ?_, .same, trivial⟩
    try dsimp only
    refine IsL.cat' (id :: d) [ck (id :: d)] rfl rfl (by omega) IsL.seq (IsL.one rfl)
end Go.Proofs.Ytncmpjpmcliomaa

namespace Go.Proofs.Ytncmpjpmcliomaa
open Go Go.AM
attribute [local irreducible] AWP CallK PureCall SubS
def bitsCaps (w o : Int) : List AV := [.rptr 1 fun _ => .int .u8 o, .rptr 1 fun _ => .int .u16 w]
def bitsF (w o : Int) : AV := .func (.func 41) 0 (fun _ => .nilS) 2 (getL (bitsCaps w o))
theorem f33 (w o : Int) : PureCall Try.prog 33 [i16 w, u8 o] (bitsF w o) := by
  refine PureCall.run tab_ok mixed (by kernel_rfl) Try.func33 rfl rfl rfl ?_
  conv => whnf
  refine ⟨[2, 3], .func _ _ _ _ _ _ _ (fun i hi => absurd hi (Nat.not_lt_zero i)) fun i hi => ?_⟩
  match i with
  | 0 => exact .frzp _ _ _ _ _ _ _ _ rfl rfl rfl rfl (Nat.le_refl _) (Nat.le_refl _) fun j _ => .same
  | 1 => exact .frzp _ _ _ _ _ _ _ _ rfl rfl rfl rfl (Nat.le_refl _) (Nat.le_refl _) fun j _ => .same
def bit (w : Int) (j : Nat) : Int := w / 2 ^ (14 - j) % 2
/-- The bits behind the order bit. -/
def dataB (w : Int) : List Int := (List.range 15).map (bit w)
def lastB (w o : Int) : Int := 1 - (o + sumI (dataB w)) % 2
def bitL (w o : Int) : List Int := (o :: dataB w) ++ [lastB w o]
def logB (l : List Int) : List (List AV) := l.map fun b => [u8 b]
theorem logB_snoc (l : List Int) (b : Int) : logB (l ++ [b]) = logB l ++ [[u8 b]] := by simp [logB]
theorem take_data (w : Int) {j : Nat} (hj : j < 15) : (dataB w).take (j + 1) = (dataB w).take j ++ [bit w j] := by
  have h : j < (dataB w).length := by simpa [dataB] using hj
  rw [List.take_add_one, List.getElem?_eq_getElem h]
  simp [dataB]
theorem pre_log (w o : Int) (j : Nat) : logB (o :: (dataB w).take j) <+: logB (bitL w o) := by
  refine List.IsPrefix.map _ ?_
  show o :: (dataB w).take j <+: (o :: dataB w) ++ [lastB w o]
  exact (List.prefix_cons_inj o |>.mpr (List.take_prefix _ _)).trans (List.prefix_append _ _)
def bitV (w : Int) (j : Nat) : Int := IntKind.u8.wrap (bitsOf .and .u16 (w.fdiv (2 ^ (min (14 - (j : Int)).toNat IntKind.u16.bits))) 1)
theorem bitV_eq {w : Int} {j : Nat} (hw : 0 ≤ w ∧ w < 32768) (hj : j < 15) : bitV w j = bit w j := by
  have e1 : min (14 - (j : Int)).toNat IntKind.u16.bits = 14 - j := by simp only [IntKind.bits]; omega
  have hp : (0 : Int) < 2 ^ (14 - j) := by exact_mod_cast Nat.two_pow_pos (14 - j)
  obtain ⟨n, rfl⟩ := Int.eq_ofNat_of_zero_le hw.1
  have e2 : ((n : Int).fdiv (2 ^ (14 - j))) = ((n / 2 ^ (14 - j) : Nat) : Int) := by
    rw [Int.fdiv_eq_ediv_of_nonneg _ (Int.le_of_lt hp)]; simp
  have hlt : n / 2 ^ (14 - j) < 65536 := Nat.lt_of_le_of_lt (Nat.div_le_self _ _) (by omega)
  unfold bitV bit
  rw [e1, e2, show (1 : Int) = ((1 : Nat) : Int) from rfl, and_nat (k := .u16) rfl hlt (by decide), Nat.and_one_is_mod, w8]
  have e3 : (n : Int) / 2 ^ (14 - j) = ((n / 2 ^ (14 - j) : Nat) : Int) := by simp
  rw [e3]
  omega
theorem bit_bd (w : Int) (j : Nat) : 0 ≤ bit w j ∧ bit w j < 2 := by unfold bit; omega
theorem f41 (w o : Int) (hw : 0 ≤ w ∧ w < 32768) (ho : 0 ≤ o ∧ o < 2) : IterCall Try.prog 41 (bitsCaps w o) (fun p => p <+: logB (bitL w o)) (fun p => p = logB (bitL w o)) := by
  refine IterCall.run tab_ok mixed (by kernel_rfl) Try.func41 rfl rfl rfl fun l => ?_
  conv => whnf
  refine ⟨⟨Nat.le_refl _⟩, ?_⟩
  conv => whnf
  repeat (refine ⟨⟨rfl, rfl, nle rfl, nle rfl⟩, ?_⟩; conv => whnf)
  refine ⟨⟨Nat.le_refl _⟩, ?_⟩
  conv => whnf
  refine ⟨⟨rfl, rfl, ?_, rfl⟩, fun stop => ?_⟩
  · exact ⟨logB (dataB w ++ [lastB w o]), rfl⟩
  conv => whnf
  refine ⟨fun hs => ?_, fun hs => ?_⟩
  · conv => whnf
    intro h
    exact absurd (show stop = false from h) (by cases stop <;> simp_all)
  obtain rfl : stop = false := by cases stop <;> simp_all
  conv => whnf
  refine ex_loop tab_ok mixed (fun j => j ≤ 15) (fun j : Nat => mkStX 31 [(0, .func (.yield l) 0 (fun _ => .nilS) 0 (fun _ => .nilS)), (5, .func (.func 42) 0 (fun _ => .nilS) 1 (fun _ => .ptr 4 0 1 0 0)), (2, .rptr 1 fun _ => .int .u16 w), (4, .ptr 4 0 1 0 0), (6, i64 (14 - j))]
      [(4, ⟨5, 0, 1, 1, fun _ _ => u8 ((o + sumI ((dataB w).take j)) % 2)⟩)] ⟨some l, fun p => p <+: logB (bitL w o), logB (o :: (dataB w).take j), false, fun _ => none, false⟩) (fun j => 15 - j) 0 (Nat.zero_le _) (SubS.mkX [] rfl ?_ ?_ ?_) fun j hj => ?_
  · refine ⟨⟨_, rfl, .func _ _ _ _ _ _ _ (fun i hi => absurd hi (Nat.not_lt_zero i)) (fun i hi => absurd hi (Nat.not_lt_zero i))⟩, ⟨_, rfl, .func _ _ _ _ _ _ _ (fun i hi => absurd hi (Nat.not_lt_zero i)) (fun i hi => ?_)⟩, ⟨_, rfl, .rptr _ _ _ fun i _ => .refl _⟩, ⟨_, rfl, .ptr _ _ _ _ _ _ _ _ _ rfl rfl rfl rfl⟩, ⟨_, rfl, .same⟩, trivial⟩
    match i with
    | 0 => exact .ptr _ _ _ _ _ _ _ _ _ rfl rfl rfl rfl
  · refine ⟨.inl ⟨_, _, rfl, rfl, rfl, rfl, rfl, rfl, Nat.le_refl _, fun i j hi hj => ?_⟩, trivial⟩
    match i, j with
    | 0, 0 => exact .int (by show o = (o + 0) % 2; omega)
  · exact ⟨rfl, rfl, rfl, rfl, rfl, fun t v h => by cases h⟩
  conv => whnf
  refine ⟨fun hc => ?_, fun hc => ?_⟩
  · have hc : (0 : Int) ≤ 14 - j := of_decide_eq_true hc
    conv => whnf
    refine ⟨⟨Nat.le_refl _⟩, ?_⟩
    conv => whnf
    have hj14 : j < 15 := by omega
    have hb := bit_bd w j
    have hsb : bitsOf .xor .u8 ((o + sumI ((dataB w).take j)) % 2) (bitV w j) = (o + sumI ((dataB w).take (j + 1))) % 2 := by
      rw [bitV_eq hw hj14, xorBit (by omega) hb, take_data w hj14, sumI_snoc]; omega
    refine ⟨⟨hc⟩, ?_⟩
    conv => whnf
    refine CallK.inline tab_ok (by kernel_rfl) Try.func42 rfl rfl rfl rfl ?_
    conv => whnf
    repeat (refine ⟨⟨rfl, rfl, nle rfl, nle rfl⟩, ?_⟩; conv => whnf)
    refine ⟨⟨rfl, rfl, ?_, rfl⟩, fun stop => ?_⟩
    · show logB (o :: (dataB w).take j) ++ [[u8 (bitV w j)]] <+: logB (bitL w o)
      rw [bitV_eq hw hj14, ← logB_snoc, List.cons_append, ← take_data w hj14]
      exact pre_log w o (j + 1)
    conv => whnf
    refine ⟨fun hs => ?_, fun hs => ?_⟩
    · conv => whnf
      intro h
      exact absurd (show stop = false from h) (by cases stop <;> simp_all)
    obtain rfl : stop = false := by cases stop <;> simp_all
    conv => whnf
    refine ⟨⟨by unfold inI64; omega⟩, ?_⟩
    conv => whnf
    refine ⟨j + 1, by omega, SubS.mkX [] rfl ?_ ?_ ?_, by omega⟩
    · refine ⟨⟨_, rfl, .func _ _ _ _ _ _ _ (fun i hi => absurd hi (Nat.not_lt_zero i)) (fun i hi => absurd hi (Nat.not_lt_zero i))⟩, ⟨_, rfl, .func _ _ _ _ _ _ _ (fun i hi => absurd hi (Nat.not_lt_zero i)) (fun i hi => ?_)⟩, ⟨_, rfl, .rptr _ _ _ fun i _ => .refl _⟩, ⟨_, rfl, .ptr _ _ _ _ _ _ _ _ _ rfl rfl rfl rfl⟩, ⟨_, rfl, .int (by show (14 - (j : Int)) - 1 = _; omega)⟩, trivial⟩
      match i with
      | 0 => exact .ptr _ _ _ _ _ _ _ _ _ rfl rfl rfl rfl
    · refine ⟨.inl ⟨_, _, rfl, rfl, rfl, rfl, rfl, rfl, Nat.le_refl _, fun i j hi hj => ?_⟩, trivial⟩
      match i, j with
      | 0, 0 => exact .int hsb
    · refine ⟨rfl, rfl, ?_, rfl, rfl, fun t v h => by cases h⟩
      show logB (o :: (dataB w).take (j + 1)) = logB (o :: (dataB w).take j) ++ [[u8 (bitV w j)]]
      rw [bitV_eq hw hj14, ← logB_snoc, List.cons_append, ← take_data w hj14]
  · have hc : ¬ (0 : Int) ≤ 14 - j := of_decide_eq_false hc
    have hj15 : j = 15 := by omega
    subst hj15
    have htk : (dataB w).take 15 = dataB w := List.take_of_length_le (by simp [dataB])
    have hlast : IntKind.u8.wrap (1 - (o + sumI ((dataB w).take 15)) % 2) = lastB w o := by
      rw [htk, w8]; unfold lastB; omega
    conv => whnf
    repeat (refine ⟨⟨rfl, rfl, nle rfl, nle rfl⟩, ?_⟩; conv => whnf)
    refine ⟨⟨rfl, rfl, ?_, rfl⟩, fun stop => ?_⟩
    · show logB (o :: (dataB w).take 15) ++ [[u8 (IntKind.u8.wrap (1 - (o + sumI ((dataB w).take 15)) % 2))]] <+: logB (bitL w o)
      rw [hlast, ← logB_snoc, htk]
      exact List.prefix_refl _
    conv => whnf
    intro _
    show logB (o :: (dataB w).take 15) ++ [[u8 (IntKind.u8.wrap (1 - (o + sumI ((dataB w).take 15)) % 2))]] = logB (bitL w o)
    rw [hlast, ← logB_snoc, htk]
    rfl
end Go.Proofs.Ytncmpjpmcliomaa

namespace Go.Proofs.Ytncmpjpmcliomaa
open Go Go.AM
attribute [local irreducible] AWP CallK PureCall SubS
/-- The bits of the first i words. -/
def sendN (ws : List Int) : Nat → List Int
  | 0 => []
  | i + 1 => sendN ws i ++ bitL (ws.getD i 0) (if i = 0 then 1 else 0)
def sendS (id : Int) (d : List Int) : List Int × Int :=
  bif (wordsS id d).2 == 0 then (sendN (wordsS id d).1 (wordsS id d).1.length, 0) else ([], (wordsS id d).2)
def sendV (p : List Int × Int) : AV := tupV [.pv (sb p.1), i64 p.2]
theorem words_ok {id : Int} {d : List Int} (hid : W id) (hd : ∀ x ∈ d, W x) (h : (wordsS id d).2 = 0) : (wordsS id d).1.length = 20 ∧ ∀ x ∈ (wordsS id d).1, 0 ≤ x ∧ x < 32768 := by
  unfold wordsS at h ⊢
  split at h
  · cases h
  · split at h
    · cases h
    · split at h
      · cases h
      · rename_i h1 h2 h3
        rw [if_neg h1, if_neg h2, if_neg h3]
        refine ⟨by simp; omega, fun x hx => ?_⟩
        rcases List.mem_append.mp hx with hx | hx
        · have h4 : ¬ 32767 < x := fun h4 => h3 ⟨x, hx, h4⟩
          rcases List.mem_cons.mp hx with rfl | hx
          · exact ⟨hid.1, by omega⟩
          · exact ⟨(hd x hx).1, by omega⟩
        · have : x = ck (id :: d) := by simpa using hx
          subst this
          refine ⟨(ck_W _).1, ?_⟩
          have : ∀ (l : List Int) (s : Int), s < 32768 → l.foldl addC s < 32768 := by
            intro l
            induction l with
            | nil => intro s h; exact h
            | cons y l ih => intro s _; exact ih _ addC_W.2
          exact this _ 0 (by decide)
theorem valid_round {L : List Int} {pre : List (List AV)} {x : List AV} (h : pre ++ [x] <+: logB L) : pre.length < L.length ∧ x = [u8 (L.getD pre.length 0)] := by
  obtain ⟨t, ht⟩ := h
  have hlen := congrArg List.length ht
  simp [logB] at hlen
  have hlt : pre.length < L.length := by omega
  refine ⟨hlt, ?_⟩
  have := congrArg (fun l => l[pre.length]?) ht
  simp [logB, hlt] at this
  simpa [List.getD_eq_getElem?_getD, hlt] using this
def ordB (i : Nat) : Int := if i = 0 then 1 else 0
theorem sendN_len (ws : List Int) : ∀ i, (sendN ws i).length = 17 * i := by
  intro i
  induction i with
  | zero => rfl
  | succ i ih => simp [sendN, ih, bitL, dataB]; omega
theorem f14 (id : Int) (d : List Int) (hid : W id) (hd : ∀ x ∈ d, W x) (hl : d.length < 2 ^ 62) : PureCall Try.prog 14 [listV id d] (sendV (sendS id d)) := by
  obtain ⟨ws, hws⟩ : ∃ ws, ws = (wordsS id d).1 := ⟨_, rfl⟩
  obtain ⟨e, he⟩ : ∃ e, e = (wordsS id d).2 := ⟨_, rfl⟩
  have hok := words_ok hid hd
  rw [← hws, ← he] at hok
  refine PureCall.run tab_ok mixed (by kernel_rfl) Try.func14 rfl rfl rfl ?_
  conv => whnf
  repeat (refine ⟨⟨rfl, rfl, nle rfl, nle rfl⟩, ?_⟩; conv => whnf)
  refine CallK.drop [] (f12 id d hid hd hl) ⟨.agg _ _ _ fun i hi => ?_, trivial⟩ ?_
  · match i with
    | 0 => exact .same
    | 1 => exact .same
  rw [show wordsV (wordsS id d) = tupV [.pv (sw ws), i64 e] by rw [hws, he]; rfl]
  conv => whnf
  refine ⟨fun hc => ?_, fun hc => ?_⟩
  · conv => whnf
    refine done_tup _ [] rfl ?_
    have : sendS id d = ([], e) := by
      unfold sendS; rw [← he]
      have : (e == 0) = false := by simpa using hc
      rw [this]; rfl
    rw [this]
    exact ⟨.nilL, .same, trivial⟩
  have he0 : e = 0 := by simpa using hc
  obtain ⟨hlen, hrange⟩ := hok he0
  conv => whnf
  refine ⟨⟨show inI64 (17 * (ws.length : Int)) by unfold inI64; omega⟩, ?_⟩
  conv => whnf
  refine ⟨⟨by omega, show (0 : Int) ≤ 17 * (ws.length : Int) by omega, show 17 * (ws.length : Int) ≤ 140737488355328 by omega, show 17 * (ws.length : Int) * 1 ≤ 281474976710656 by omega⟩, ?_⟩
  conv => whnf
  repeat (refine ⟨⟨rfl, rfl, nle rfl, nle rfl⟩, ?_⟩; conv => whnf)
  refine ex_loop tab_ok mixed (fun x : Nat × Nat => x.1 ≤ 20) (fun x : Nat × Nat => mkSt 39 [(23, .pv (sw ws)), (24, i64 20), (25, i64 x.1), (7, u8 (ordB x.1)), (6, .ptr 6 0 1 0 0)]
      [(6, ⟨30, 0, 1, 1, fun _ _ => .row 22 x.2 1 0 (17 * x.1)⟩), (22, rowL 5 .u8 x.2 (sendN ws x.1))]) (fun x => 20 - x.1) (0, 0) (Nat.zero_le _) (SubS.mk [] rfl ?_ ?_) fun x hx => ?_
  · exact ⟨⟨_, rfl, .same⟩, ⟨_, rfl, .int (by omega)⟩, ⟨_, rfl, .same⟩, ⟨_, rfl, .same⟩, ⟨_, rfl, .ptr _ _ _ _ _ _ _ _ _ rfl rfl rfl rfl⟩, trivial⟩
  · refine ⟨.inl ⟨_, _, rfl, rfl, rfl, rfl, rfl, rfl, Nat.le_refl _, fun i j hi hj => ?_⟩, .inl ⟨_, _, rfl, rfl, rfl, OLe.rowL rfl rfl rfl (Nat.le_refl _) IsL.nil⟩, trivial⟩
    match i, j with
    | 0, 0 => exact .row _ _ _ _ _ _ _ _ _ rfl rfl rfl rfl
  obtain ⟨i, g⟩ := x
  have hi : i ≤ 20 := hx
  conv => whnf
  refine ⟨fun hc => ?_, fun hc => ?_⟩
  · have hc : (i : Int) < 20 := of_decide_eq_true hc
    have hlt : i < ws.length := by omega
    have hwr := hrange (ws.getD i 0) (by rw [List.getD_eq_getElem?_getD, List.getElem?_eq_getElem hlt]; exact List.getElem_mem hlt)
    have hor : 0 ≤ ordB i ∧ ordB i < 2 := by unfold ordB; split <;> omega
    conv => whnf
    refine ⟨⟨by omega, by omega, rfl⟩, ?_⟩
    conv => whnf
    refine ⟨⟨Nat.le_refl _⟩, ?_⟩
    conv => whnf
    refine CallK.drop [] (f33 (ws.getD i 0) (ordB i)) ⟨.same, .same, trivial⟩ ?_
    conv => whnf
    obtain ⟨L, hL⟩ : ∃ L, L = bitL (ws.getD i 0) (ordB i) := ⟨_, rfl⟩
    let S : List (List AV) → ASt := fun pre => mkSt 39 [(23, .pv (sw ws)), (24, i64 20), (25, i64 i), (7, u8 (ordB i)), (6, .ptr 6 0 1 0 0), (31, bitsF (ws.getD i 0) (ordB i))]
      [(6, ⟨30, 0, 1, 1, fun _ _ => .row 22 (g + pre.length) 1 0 (17 * i + pre.length)⟩), (22, rowL 5 .u8 (g + pre.length) (sendN ws i ++ L.take pre.length))]
    refine AWP.sub (st' := S []) (SubS.mk [] rfl ?_ ?_) (awp_range (S := S) (caps' := bitsCaps (ws.getD i 0) (ordB i)) (fun _ => rfl) (fun _ => rfl) rfl rfl (fun k hk => ?_) ?_ ?_ (f41 _ _ hwr hor) ?_ ?_)
    · refine ⟨⟨_, rfl, .same⟩, ⟨_, rfl, .same⟩, ⟨_, rfl, .same⟩, ⟨_, rfl, .same⟩, ⟨_, rfl, .ptr _ _ _ _ _ _ _ _ _ rfl rfl rfl rfl⟩, ⟨_, rfl, .func _ _ _ _ _ _ _ (fun i hi => absurd hi (Nat.not_lt_zero i)) fun k hk => ?_⟩, trivial⟩
      match k with
      | 0 => exact .rptr _ _ _ fun _ _ => .refl _
      | 1 => exact .rptr _ _ _ fun _ _ => .refl _
    · refine ⟨.inl ⟨_, _, rfl, rfl, rfl, rfl, rfl, rfl, Nat.le_refl _, fun i j hi hj => ?_⟩, .inl ⟨_, _, rfl, rfl, rfl, OLe.rowL rfl rfl rfl (by show (sendN ws i ++ L.take 0).length ≤ _; simp [rowL]) (by show IsL _ _ (sendN ws i ++ L.take 0); rw [List.take_zero, List.append_nil]; exact IsL.seq)⟩, trivial⟩
      match i, j with
      | 0, 0 => exact .row _ _ _ _ _ _ _ _ _ rfl rfl rfl rfl
    · match k with
      | 0 => exact .rptr _ _ _ fun _ _ => .refl _
      | 1 => exact .rptr _ _ _ fun _ _ => .refl _
    · intro p hp
      simp at hp
      subst hp
      show 32 < 39
      decide
    · intro pre x h
      rw [(valid_round h).2]; rfl
    · intro pre x h
      obtain ⟨hpl, rfl⟩ := valid_round h
      rw [← hL] at hpl ⊢
      refine ex_sound tab_ok mixed _ _ _ ?_
      conv => whnf
      refine ex_sound tab_ok mixed _ _ _ ?_
      conv => whnf
      repeat (refine ⟨⟨rfl, rfl, nle rfl, nle rfl⟩, ?_⟩; conv => whnf)
      have hLl : L.length = 17 := by rw [hL]; simp [bitL, dataB]
      have hsl : (sendN ws i ++ L.take pre.length).length = 17 * i + pre.length := by rw [List.length_append, sendN_len, List.length_take]; omega
      refine ⟨⟨⟨rfl, rfl, rfl, nle rfl⟩, rfl, rfl, rfl, rfl, rfl, hsl.symm, show (17 * i + pre.length + 1) * 1 ≤ 140737488355328 by omega⟩, ?_⟩
      conv => whnf
      repeat (refine ⟨⟨rfl, rfl, nle rfl, nle rfl⟩, ?_⟩; conv => whnf)
      have hpx : (pre ++ [[u8 (L.getD pre.length 0)]]).length = pre.length + 1 := by simp
      refine SubS.mk [] rfl ?_ ?_
      · refine ⟨⟨_, rfl, .same⟩, ⟨_, rfl, .same⟩, ⟨_, rfl, .same⟩, ⟨_, rfl, .same⟩, ⟨_, rfl, .ptr _ _ _ _ _ _ _ _ _ rfl rfl rfl rfl⟩, ⟨_, rfl, .func _ _ _ _ _ _ _ (fun i hi => absurd hi (Nat.not_lt_zero i)) fun k hk => ?_⟩, trivial⟩
        match k with
        | 0 => exact .rptr _ _ _ fun _ _ => .refl _
        | 1 => exact .rptr _ _ _ fun _ _ => .refl _
      · have hcat : sendN ws i ++ L.take (pre ++ [[u8 (L.getD pre.length 0)]]).length = (sendN ws i ++ L.take pre.length) ++ [L.getD pre.length 0] := by
          rw [hpx, take_succ_getD hpl, List.append_assoc]
        refine ⟨.inl ⟨_, _, rfl, rfl, rfl, rfl, rfl, rfl, Nat.le_refl _, fun i' j' hi' hj' => ?_⟩, .inl ⟨_, _, rfl, rfl, rfl, OLe.rowL rfl (by rw [hpx]; rfl) rfl ?_ ?_⟩, trivial⟩
        · match i', j' with
          | 0, 0 => exact .row _ _ _ _ _ _ _ _ _ rfl (by rw [hpx]; rfl) rfl (by rw [hpx]; rfl)
        · rw [hcat, List.length_append, hsl]
          exact Nat.le_refl _
        · rw [hcat]
          try dsimp only
          exact IsL.cat' _ _ rfl rfl hsl.symm IsL.seq (IsL.one rfl)
    · rintro xs rfl
      conv => whnf
      refine ⟨⟨by unfold inI64; omega⟩, ?_⟩
      conv => whnf
      have hLl : L.length = 17 := by rw [hL]; simp [bitL, dataB]
      have hx : (logB (bitL (ws.getD i 0) (ordB i))).length = 17 := by rw [← hL]; simpa [logB] using hLl
      have hcat : sendN ws i ++ L.take (logB (bitL (ws.getD i 0) (ordB i))).length = sendN ws (i + 1) := by
        rw [hx, List.take_of_length_le (by omega), hL]; rfl
      refine ⟨(i + 1, g + 17), by omega, SubS.mk [] rfl ?_ ?_, by show 20 - (i + 1) < 20 - i; omega⟩
      · exact ⟨⟨_, rfl, .same⟩, ⟨_, rfl, .same⟩, ⟨_, rfl, .same⟩, ⟨_, rfl, .same⟩, ⟨_, rfl, .ptr _ _ _ _ _ _ _ _ _ rfl rfl rfl rfl⟩, trivial⟩
      · refine ⟨.inl ⟨_, _, rfl, rfl, rfl, rfl, rfl, rfl, Nat.le_refl _, fun i' j' hi' hj' => ?_⟩, .inl ⟨_, _, rfl, rfl, rfl, OLe.rowL rfl (by show g + 17 = g + _; rw [hx]) rfl ?_ ?_⟩, trivial⟩
        · match i', j' with
          | 0, 0 => exact .row _ _ _ _ _ _ _ _ _ rfl (by rw [hx]) rfl (by rw [hx]; omega)
        · show _ ≤ (sendN ws i ++ L.take (logB (bitL (ws.getD i 0) (ordB i))).length).length
          rw [hcat]
          exact Nat.le_refl _
        · show IsL (fun k _ => .pv (.int .u8 ((sendN ws i ++ L.take (logB (bitL (ws.getD i 0) (ordB i))).length).getD k 0))) .u8 (sendN ws (i + 1))
          rw [hcat]
          exact IsL.seq
  · have hc : ¬ (i : Int) < 20 := of_decide_eq_false hc
    have hi20 : i = 20 := by omega
    conv => whnf
    repeat (refine ⟨⟨rfl, rfl, nle rfl, nle rfl⟩, ?_⟩; conv => whnf)
    refine done_tup _ [22] rfl ?_
    have : sendS id d = (sendN ws i, 0) := by
      unfold sendS; rw [← he, ← hws, he0, hlen, hi20]; rfl
    rw [this]
    have hsl := sendN_len ws i
    exact ⟨.frz0 _ rfl rfl rfl rfl rfl (Nat.le_of_eq hsl.symm) hsl.symm IsL.seq, .same, trivial⟩
end Go.Proofs.Ytncmpjpmcliomaa

namespace Go.Proofs.Ytncmpjpmcliomaa
open Go Go.AM
attribute [local irreducible] AWP CallK PureCall SubS
def bitR (w : Int) (j : Nat) : Int := ((IntKind.i64.wrap w).fdiv (2 ^ (min (14 - (j : Int)).toNat IntKind.i64.bits))).tmod 2
theorem bitR_eq {w : Int} {j : Nat} (hw : 0 ≤ w ∧ w < 32768) (hj : j < 15) : bitR w j = bit w j := by
  have e1 : min (14 - (j : Int)).toNat IntKind.i64.bits = 14 - j := by simp only [IntKind.bits]; omega
  have hp : (0 : Int) < 2 ^ (14 - j) := by exact_mod_cast Nat.two_pow_pos (14 - j)
  unfold bitR bit
  rw [wi64 (by omega) (by omega), e1, Int.fdiv_eq_ediv_of_nonneg _ (Int.le_of_lt hp), Int.tmod_eq_emod_of_nonneg (Int.ediv_nonneg hw.1 (Int.le_of_lt hp))]
theorem f15 (id : Int) (d : List Int) (hid : W id) (hd : ∀ x ∈ d, W x) (hl : d.length < 2 ^ 62) : PureCall Try.prog 15 [listV id d] (sendV (sendS id d)) := by
  obtain ⟨ws, hws⟩ : ∃ ws, ws = (wordsS id d).1 := ⟨_, rfl⟩
  obtain ⟨e, he⟩ : ∃ e, e = (wordsS id d).2 := ⟨_, rfl⟩
  have hok := words_ok hid hd
  rw [← hws, ← he] at hok
  refine PureCall.run tab_ok mixed (by kernel_rfl) Try.func15 rfl rfl rfl ?_
  conv => whnf
  repeat (refine ⟨⟨rfl, rfl, nle rfl, nle rfl⟩, ?_⟩; conv => whnf)
  refine CallK.drop [] (f13 id d hid hd hl) ⟨.agg _ _ _ fun i hi => ?_, trivial⟩ ?_
  · match i with
    | 0 => exact .same
    | 1 => exact .same
  rw [show wordsV (wordsS id d) = tupV [.pv (sw ws), i64 e] by rw [hws, he]; rfl]
  conv => whnf
  refine ⟨fun hc => ?_, fun hc => ?_⟩
  · conv => whnf
    refine done_tup _ [] rfl ?_
    have : sendS id d = ([], e) := by
      unfold sendS; rw [← he]
      have : (e == 0) = false := by simpa using hc
      rw [this]; rfl
    rw [this]
    exact ⟨.nilL, .same, trivial⟩
  have he0 : e = 0 := by simpa using hc
  obtain ⟨hlen, hrange⟩ := hok he0
  conv => whnf
  refine ex_loop tab_ok mixed (fun x : Nat × Nat => x.1 ≤ 20) (fun x : Nat × Nat => mkSt 61 [(4, .pv (sw ws)), (7, i64 x.1), (6, .row 100 x.2 1 0 (17 * x.1))] [(100, rowL 5 .u8 x.2 (sendN ws x.1))]) (fun x => 20 - x.1) (0, 0) (Nat.zero_le _) (SubS.mk [] rfl ?_ ?_) fun x hx => ?_
  · exact ⟨⟨_, rfl, .same⟩, ⟨_, rfl, .same⟩, ⟨_, rfl, .void _ _ _⟩, trivial⟩
  · exact ⟨.inr ⟨rfl, rfl⟩, trivial⟩
  obtain ⟨i, g⟩ := x
  have hi : i ≤ 20 := hx
  conv => whnf
  refine ⟨fun hc => ?_, fun hc => ?_⟩
  · have hc : (i : Int) < ws.length := of_decide_eq_true hc
    have hlt : i < ws.length := by omega
    have hwr := hrange (ws.getD i 0) (by rw [List.getD_eq_getElem?_getD, List.getElem?_eq_getElem hlt]; exact List.getElem_mem hlt)
    have hsl := sendN_len ws i
    conv => whnf
    refine ⟨fun h0 => ?_, fun h0 => ?_⟩
    · have h0 : (i : Int) = 0 := eq_of_beq h0
      have hoe : (1 : Int) = ordB i := by unfold ordB; rw [if_pos (by omega)]
      conv => whnf
      refine ⟨⟨⟨rfl, rfl, rfl, nle rfl⟩, rfl, rfl, rfl, rfl, rfl, hsl.symm, show (17 * i + 1) * 1 ≤ 140737488355328 by omega⟩, ?_⟩
      conv => whnf
      refine ex_loop tab_ok mixed (fun x : Nat × Nat => x.1 ≤ 15) (fun x : Nat × Nat => mkSt 61 [(4, .pv (sw ws)), (7, i64 i), (6, .row 100 x.2 1 0 (17 * i + 1 + x.1)), (8, i64 (ordB i + sumI ((dataB (ws.getD i 0)).take x.1))), (9, i64 (14 - x.1))]
        [(100, rowL 5 .u8 x.2 (sendN ws i ++ (ordB i :: (dataB (ws.getD i 0)).take x.1)))]) (fun x => 15 - x.1) (0, g + 1) (Nat.zero_le _) (SubS.mk [] rfl ?_ ?_) fun x hx => ?_
      · exact ⟨⟨_, rfl, .same⟩, ⟨_, rfl, .same⟩, ⟨_, rfl, .row _ _ _ _ _ _ _ _ _ rfl rfl rfl rfl⟩, ⟨_, rfl, .int (hoe.trans (Int.add_zero _).symm)⟩, ⟨_, rfl, .same⟩, trivial⟩
      · refine ⟨.inl ⟨_, _, rfl, rfl, rfl, OLe.rowL rfl rfl rfl ?_ ?_⟩, trivial⟩
        · show (sendN ws i ++ [ordB i]).length ≤ 17 * i + 1
          rw [List.length_append, hsl]; exact Nat.le_refl _
        · show IsL _ _ (sendN ws i ++ [ordB i])
          try dsimp only
          exact IsL.cat' _ _ rfl rfl hsl.symm IsL.seq (IsL.one (by rw [← hoe]; rfl))
      obtain ⟨k, g1⟩ := x
      have hk : k ≤ 15 := hx
      have hdl : (dataB (ws.getD i 0)).length = 15 := by simp [dataB]
      have hcur : (sendN ws i ++ (ordB i :: (dataB (ws.getD i 0)).take k)).length = 17 * i + 1 + k := by rw [List.length_append, hsl, List.length_cons, List.length_take, hdl]; omega
      have hbs := sumI_bd ((dataB (ws.getD i 0)).take k) (fun y hy => by
        obtain ⟨m, _, rfl⟩ := List.mem_map.mp (List.mem_of_mem_take hy); exact bit_bd _ _)
      have hbl : ((dataB (ws.getD i 0)).take k).length ≤ 15 := by rw [List.length_take]; omega
      have hob : 0 ≤ ordB i ∧ ordB i < 2 := by unfold ordB; split <;> omega
      conv => whnf
      refine ⟨fun hc => ?_, fun hc => ?_⟩
      · have hc : (0 : Int) ≤ 14 - k := of_decide_eq_true hc
        have hk14 : k < 15 := by omega
        have hb := bit_bd (ws.getD i 0) k
        have hbv : IntKind.u8.wrap (bitR (ws.getD i 0) k) = bit (ws.getD i 0) k := by rw [bitR_eq hwr hk14, w8]; omega
        conv => whnf
        refine ⟨⟨by omega, by omega, rfl⟩, ?_⟩
        conv => whnf
        refine ⟨⟨Nat.le_refl _⟩, ?_⟩
        conv => whnf
        refine ⟨⟨hc⟩, ?_⟩
        conv => whnf
        refine ⟨⟨by decide⟩, ?_⟩
        conv => whnf
        refine ⟨⟨⟨rfl, rfl, rfl, nle rfl⟩, rfl, rfl, rfl, rfl, rfl, hcur.symm, show (17 * i + 1 + k + 1) * 1 ≤ 140737488355328 by omega⟩, ?_⟩
        conv => whnf
        refine ⟨⟨show inI64 (ordB i + sumI ((dataB (ws.getD i 0)).take k) + bitR (ws.getD i 0) k) by rw [bitR_eq hwr hk14]; unfold inI64; omega⟩, ?_⟩
        conv => whnf
        refine ⟨⟨by unfold inI64; omega⟩, ?_⟩
        conv => whnf
        have hcat : sendN ws i ++ (ordB i :: (dataB (ws.getD i 0)).take (k + 1)) = (sendN ws i ++ (ordB i :: (dataB (ws.getD i 0)).take k)) ++ [bit (ws.getD i 0) k] := by
          rw [take_data _ hk14]; simp
        refine ⟨(k + 1, g1 + 1), by omega, SubS.mk [] rfl ⟨⟨_, rfl, .same⟩, ⟨_, rfl, .same⟩, ⟨_, rfl, .row _ _ _ _ _ _ _ _ _ rfl rfl rfl rfl⟩, ⟨_, rfl, .int ?_⟩, ⟨_, rfl, .int (by show (14 - (k : Int)) - 1 = 14 - ((k + 1 : Nat) : Int); omega)⟩, trivial⟩ ⟨.inl ⟨_, _, rfl, rfl, rfl, OLe.rowL rfl rfl rfl ?_ ?_⟩, trivial⟩, by show 15 - (k + 1) < 15 - k; omega⟩
        · show ordB i + sumI ((dataB (ws.getD i 0)).take k) + bitR (ws.getD i 0) k = ordB i + sumI ((dataB (ws.getD i 0)).take (k + 1))
          rw [bitR_eq hwr hk14, take_data _ hk14, sumI_snoc]; omega
        · rw [hcat, List.length_append, hcur]; exact Nat.le_refl _
        · rw [hcat]
          try dsimp only
          exact IsL.cat' _ _ rfl rfl hcur.symm IsL.seq (IsL.one (by rw [← hbv]; rfl))
      · have hc : ¬ (0 : Int) ≤ 14 - k := of_decide_eq_false hc
        have hk15 : k = 15 := by omega
        have htk : (dataB (ws.getD i 0)).take k = dataB (ws.getD i 0) := List.take_of_length_le (by omega)
        have hlv : IntKind.u8.wrap (1 - (ordB i + sumI ((dataB (ws.getD i 0)).take k)).tmod 2) = lastB (ws.getD i 0) (ordB i) := by
          rw [Int.tmod_eq_emod_of_nonneg (by omega), htk, w8]; unfold lastB; omega
        conv => whnf
        refine ⟨⟨by decide⟩, ?_⟩
        conv => whnf
        refine ⟨⟨show inI64 (1 - (ordB i + sumI ((dataB (ws.getD i 0)).take k)).tmod 2) by rw [Int.tmod_eq_emod_of_nonneg (by omega)]; unfold inI64; omega⟩, ?_⟩
        conv => whnf
        refine ⟨⟨⟨rfl, rfl, rfl, nle rfl⟩, rfl, rfl, rfl, rfl, rfl, hcur.symm, show (17 * i + 1 + k + 1) * 1 ≤ 140737488355328 by omega⟩, ?_⟩
        conv => whnf
        refine ⟨⟨by unfold inI64; omega⟩, ?_⟩
        conv => whnf
        have hcat : sendN ws (i + 1) = (sendN ws i ++ (ordB i :: (dataB (ws.getD i 0)).take k)) ++ [lastB (ws.getD i 0) (ordB i)] := by
          rw [htk]; show sendN ws i ++ ((ordB i :: dataB (ws.getD i 0)) ++ [lastB (ws.getD i 0) (ordB i)]) = _
          rw [List.append_assoc]
        refine ⟨(i + 1, g1 + 1), by omega, SubS.mk [] rfl ⟨⟨_, rfl, .same⟩, ⟨_, rfl, .same⟩, ⟨_, rfl, .row _ _ _ _ _ _ _ _ _ rfl rfl rfl (by show 17 * i + 1 + k + 1 = 17 * (i + 1); omega)⟩, trivial⟩ ⟨.inl ⟨_, _, rfl, rfl, rfl, OLe.rowL rfl rfl rfl ?_ ?_⟩, trivial⟩, by show 20 - (i + 1) < 20 - i; omega⟩
        · show (sendN ws (i + 1)).length ≤ _
          rw [hcat, List.length_append, hcur]; exact Nat.le_refl _
        · show IsL _ _ (sendN ws (i + 1))
          rw [hcat]
          try dsimp only
          exact IsL.cat' _ _ rfl rfl hcur.symm IsL.seq (IsL.one (by rw [← hlv]; rfl))
    · have h0 : ¬ (i : Int) = 0 := by intro e; rw [e] at h0; cases h0
      have hoe : (0 : Int) = ordB i := by unfold ordB; rw [if_neg (by omega)]
      conv => whnf
      refine ⟨⟨⟨rfl, rfl, rfl, nle rfl⟩, rfl, rfl, rfl, rfl, rfl, hsl.symm, show (17 * i + 1) * 1 ≤ 140737488355328 by omega⟩, ?_⟩
      conv => whnf
      refine ex_loop tab_ok mixed (fun x : Nat × Nat => x.1 ≤ 15) (fun x : Nat × Nat => mkSt 61 [(4, .pv (sw ws)), (7, i64 i), (6, .row 100 x.2 1 0 (17 * i + 1 + x.1)), (8, i64 (ordB i + sumI ((dataB (ws.getD i 0)).take x.1))), (9, i64 (14 - x.1))]
        [(100, rowL 5 .u8 x.2 (sendN ws i ++ (ordB i :: (dataB (ws.getD i 0)).take x.1)))]) (fun x => 15 - x.1) (0, g + 1) (Nat.zero_le _) (SubS.mk [] rfl ?_ ?_) fun x hx => ?_
      · exact ⟨⟨_, rfl, .same⟩, ⟨_, rfl, .same⟩, ⟨_, rfl, .row _ _ _ _ _ _ _ _ _ rfl rfl rfl rfl⟩, ⟨_, rfl, .int (hoe.trans (Int.add_zero _).symm)⟩, ⟨_, rfl, .same⟩, trivial⟩
      · refine ⟨.inl ⟨_, _, rfl, rfl, rfl, OLe.rowL rfl rfl rfl ?_ ?_⟩, trivial⟩
        · show (sendN ws i ++ [ordB i]).length ≤ 17 * i + 1
          rw [List.length_append, hsl]; exact Nat.le_refl _
        · show IsL _ _ (sendN ws i ++ [ordB i])
          try dsimp only
          exact IsL.cat' _ _ rfl rfl hsl.symm IsL.seq (IsL.one (by rw [← hoe]; rfl))
      obtain ⟨k, g1⟩ := x
      have hk : k ≤ 15 := hx
      have hdl : (dataB (ws.getD i 0)).length = 15 := by simp [dataB]
      have hcur : (sendN ws i ++ (ordB i :: (dataB (ws.getD i 0)).take k)).length = 17 * i + 1 + k := by rw [List.length_append, hsl, List.length_cons, List.length_take, hdl]; omega
      have hbs := sumI_bd ((dataB (ws.getD i 0)).take k) (fun y hy => by
        obtain ⟨m, _, rfl⟩ := List.mem_map.mp (List.mem_of_mem_take hy); exact bit_bd _ _)
      have hbl : ((dataB (ws.getD i 0)).take k).length ≤ 15 := by rw [List.length_take]; omega
      have hob : 0 ≤ ordB i ∧ ordB i < 2 := by unfold ordB; split <;> omega
      conv => whnf
      refine ⟨fun hc => ?_, fun hc => ?_⟩
      · have hc : (0 : Int) ≤ 14 - k := of_decide_eq_true hc
        have hk14 : k < 15 := by omega
        have hb := bit_bd (ws.getD i 0) k
        have hbv : IntKind.u8.wrap (bitR (ws.getD i 0) k) = bit (ws.getD i 0) k := by rw [bitR_eq hwr hk14, w8]; omega
        conv => whnf
        refine ⟨⟨by omega, by omega, rfl⟩, ?_⟩
        conv => whnf
        refine ⟨⟨Nat.le_refl _⟩, ?_⟩
        conv => whnf
        refine ⟨⟨hc⟩, ?_⟩
        conv => whnf
        refine ⟨⟨by decide⟩, ?_⟩
        conv => whnf
        refine ⟨⟨⟨rfl, rfl, rfl, nle rfl⟩, rfl, rfl, rfl, rfl, rfl, hcur.symm, show (17 * i + 1 + k + 1) * 1 ≤ 140737488355328 by omega⟩, ?_⟩
        conv => whnf
        refine ⟨⟨show inI64 (ordB i + sumI ((dataB (ws.getD i 0)).take k) + bitR (ws.getD i 0) k) by rw [bitR_eq hwr hk14]; unfold inI64; omega⟩, ?_⟩
        conv => whnf
        refine ⟨⟨by unfold inI64; omega⟩, ?_⟩
        conv => whnf
        have hcat : sendN ws i ++ (ordB i :: (dataB (ws.getD i 0)).take (k + 1)) = (sendN ws i ++ (ordB i :: (dataB (ws.getD i 0)).take k)) ++ [bit (ws.getD i 0) k] := by
          rw [take_data _ hk14]; simp
        refine ⟨(k + 1, g1 + 1), by omega, SubS.mk [] rfl ⟨⟨_, rfl, .same⟩, ⟨_, rfl, .same⟩, ⟨_, rfl, .row _ _ _ _ _ _ _ _ _ rfl rfl rfl rfl⟩, ⟨_, rfl, .int ?_⟩, ⟨_, rfl, .int (by show (14 - (k : Int)) - 1 = 14 - ((k + 1 : Nat) : Int); omega)⟩, trivial⟩ ⟨.inl ⟨_, _, rfl, rfl, rfl, OLe.rowL rfl rfl rfl ?_ ?_⟩, trivial⟩, by show 15 - (k + 1) < 15 - k; omega⟩
        · show ordB i + sumI ((dataB (ws.getD i 0)).take k) + bitR (ws.getD i 0) k = ordB i + sumI ((dataB (ws.getD i 0)).take (k + 1))
          rw [bitR_eq hwr hk14, take_data _ hk14, sumI_snoc]; omega
        · rw [hcat, List.length_append, hcur]; exact Nat.le_refl _
        · rw [hcat]
          try dsimp only
          exact IsL.cat' _ _ rfl rfl hcur.symm IsL.seq (IsL.one (by rw [← hbv]; rfl))
      · have hc : ¬ (0 : Int) ≤ 14 - k := of_decide_eq_false hc
        have hk15 : k = 15 := by omega
        have htk : (dataB (ws.getD i 0)).take k = dataB (ws.getD i 0) := List.take_of_length_le (by omega)
        have hlv : IntKind.u8.wrap (1 - (ordB i + sumI ((dataB (ws.getD i 0)).take k)).tmod 2) = lastB (ws.getD i 0) (ordB i) := by
          rw [Int.tmod_eq_emod_of_nonneg (by omega), htk, w8]; unfold lastB; omega
        conv => whnf
        refine ⟨⟨by decide⟩, ?_⟩
        conv => whnf
        refine ⟨⟨show inI64 (1 - (ordB i + sumI ((dataB (ws.getD i 0)).take k)).tmod 2) by rw [Int.tmod_eq_emod_of_nonneg (by omega)]; unfold inI64; omega⟩, ?_⟩
        conv => whnf
        refine ⟨⟨⟨rfl, rfl, rfl, nle rfl⟩, rfl, rfl, rfl, rfl, rfl, hcur.symm, show (17 * i + 1 + k + 1) * 1 ≤ 140737488355328 by omega⟩, ?_⟩
        conv => whnf
        refine ⟨⟨by unfold inI64; omega⟩, ?_⟩
        conv => whnf
        have hcat : sendN ws (i + 1) = (sendN ws i ++ (ordB i :: (dataB (ws.getD i 0)).take k)) ++ [lastB (ws.getD i 0) (ordB i)] := by
          rw [htk]; show sendN ws i ++ ((ordB i :: dataB (ws.getD i 0)) ++ [lastB (ws.getD i 0) (ordB i)]) = _
          rw [List.append_assoc]
        refine ⟨(i + 1, g1 + 1), by omega, SubS.mk [] rfl ⟨⟨_, rfl, .same⟩, ⟨_, rfl, .same⟩, ⟨_, rfl, .row _ _ _ _ _ _ _ _ _ rfl rfl rfl (by show 17 * i + 1 + k + 1 = 17 * (i + 1); omega)⟩, trivial⟩ ⟨.inl ⟨_, _, rfl, rfl, rfl, OLe.rowL rfl rfl rfl ?_ ?_⟩, trivial⟩, by show 20 - (i + 1) < 20 - i; omega⟩
        · show (sendN ws (i + 1)).length ≤ _
          rw [hcat, List.length_append, hcur]; exact Nat.le_refl _
        · show IsL _ _ (sendN ws (i + 1))
          rw [hcat]
          try dsimp only
          exact IsL.cat' _ _ rfl rfl hcur.symm IsL.seq (IsL.one (by rw [← hlv]; rfl))
  · have hc : ¬ (i : Int) < ws.length := of_decide_eq_false hc
    have hi20 : i = 20 := by omega
    conv => whnf
    refine done_tup _ [100] rfl ?_
    have : sendS id d = (sendN ws i, 0) := by
      unfold sendS; rw [← he, ← hws, he0, hlen, hi20]; rfl
    rw [this]
    have hsl := sendN_len ws i
    exact ⟨.frz0 _ rfl rfl rfl rfl rfl (Nat.le_of_eq hsl.symm) hsl.symm IsL.seq, .same, trivial⟩
end Go.Proofs.Ytncmpjpmcliomaa

namespace Go.Proofs.Ytncmpjpmcliomaa
open Go Go.AM
attribute [local irreducible] AWP CallK PureCall SubS
abbrev Lst := Int × List Int
def cellP (x : Lst) (j : Nat) : PV := bif Nat.beq j 0 then .int .u16 x.1 else sw x.2
def lsP (l : List Lst) : PV := .seq 26 2 l.length fun i j => cellP (l.getD i (0, [])) j
theorem f20 (a b : List Lst) (hl : a.length < 2 ^ 62) (hm : b.length < 2 ^ 62) (ha : ∀ x ∈ a, x.2.length < 2 ^ 62) (hb : ∀ x ∈ b, x.2.length < 2 ^ 62) : PureCall Try.prog 20 [.pv (lsP a), .pv (lsP b)] (bb (decide (a = b))) := by
  refine PureCall.run tab_ok mixed (by kernel_rfl) Try.func20 rfl rfl rfl ?_
  conv => whnf
  refine ⟨fun hc => ?_, fun hc => ?_⟩
  · conv => whnf
    refine done_bool _ _ rfl rfl (Eq.symm (decide_eq_false fun e => ?_))
    subst e; simp at hc
  have hlen : a.length = b.length := by simp at hc; omega
  conv => whnf
  refine ex_loop tab_ok mixed (fun i => i ≤ a.length ∧ ∀ j, j < i → a.getD j (0, []) = b.getD j (0, [])) (fun i : Nat => mkSt 42 [(0, .pv (lsP a)), (1, .pv (lsP b)), (5, i64 i)] []) (fun i => a.length - i) 0 ⟨by omega, fun j hj => by omega⟩ (SubS.mk [] rfl ?_ trivial) fun i hi => ?_
  · exact ⟨⟨_, rfl, .same⟩, ⟨_, rfl, .same⟩, ⟨_, rfl, .same⟩, trivial⟩
  obtain ⟨hi, hq⟩ := hi
  conv => whnf
  refine ⟨fun hc => ?_, fun hc => ?_⟩
  · have hc := of_decide_eq_true hc
    have hlt : i < a.length := by omega
    conv => whnf
    refine ⟨⟨by omega, hc, rfl⟩, ?_⟩
    conv => whnf
    repeat (refine ⟨⟨nle rfl⟩, ?_⟩; conv => whnf)
    refine ⟨⟨by omega, by omega, rfl⟩, ?_⟩
    conv => whnf
    repeat (refine ⟨⟨nle rfl⟩, ?_⟩; conv => whnf)
    have hlb : i < b.length := by omega
    have hma : a.getD i (0, []) ∈ a := by rw [List.getD_eq_getElem?_getD, List.getElem?_eq_getElem hlt]; exact List.getElem_mem hlt
    have hmb : b.getD i (0, []) ∈ b := by rw [List.getD_eq_getElem?_getD, List.getElem?_eq_getElem hlb]; exact List.getElem_mem hlb
    refine ⟨fun he => ?_, fun he => ?_⟩
    · have he : ((a.getD i (0, [])).1 != (b.getD i (0, [])).1) = false := he
      conv => whnf
      repeat (first
        | (refine ⟨fun _ => ?_, fun h => (by cases h)⟩; conv => whnf)
        | (refine ⟨⟨nle rfl⟩, ?_⟩; conv => whnf)
        | (refine ⟨⟨by omega, by omega, rfl⟩, ?_⟩; conv => whnf))
      refine ⟨_, [], ⟨_, f16 (a.getD i (0, [])).2 (b.getD i (0, [])).2 (ha _ hma) (hb _ hmb), ⟨.same, .same, trivial⟩, .inl rfl⟩, ?_⟩
      conv => whnf
      repeat (refine ⟨fun _ => ?_, fun h => (by cases h)⟩; conv => whnf)
      refine ⟨rfl, ?_⟩
      conv => whnf
      refine ⟨fun hs => ?_, fun hs => ?_⟩
      · have hs : (!decide ((a.getD i (0, [])).2 = (b.getD i (0, [])).2)) = true := hs
        conv => whnf
        refine done_bool _ _ rfl rfl (Eq.symm (decide_eq_false fun e => ?_))
        subst e; simp at hs
      · have hs : (!decide ((a.getD i (0, [])).2 = (b.getD i (0, [])).2)) = false := hs
        conv => whnf
        refine ⟨⟨by unfold inI64; omega⟩, ?_⟩
        conv => whnf
        refine ⟨i + 1, ⟨by omega, fun j hj => ?_⟩, SubS.mk [] rfl ⟨⟨_, rfl, .same⟩, ⟨_, rfl, .same⟩, ⟨_, rfl, .same⟩, trivial⟩ trivial, by omega⟩
        by_cases hji : j = i
        · subst hji
          exact Prod.ext (by simpa using he) (by simpa using hs)
        · exact hq j (by omega)
    · have he : ((a.getD i (0, [])).1 != (b.getD i (0, [])).1) = true := he
      conv => whnf
      repeat (refine ⟨fun h => (by cases h), fun _ => ?_⟩; conv => whnf)
      refine ⟨rfl, ?_⟩
      conv => whnf
      refine ⟨fun _ => ?_, fun h => (by cases h)⟩
      conv => whnf
      refine done_bool _ _ rfl rfl (Eq.symm (decide_eq_false fun e => ?_))
      subst e; simp at he
  · have hc := of_decide_eq_false hc
    conv => whnf
    refine done_bool _ _ rfl rfl (Eq.symm (decide_eq_true ?_))
    apply List.ext_getElem hlen
    intro k h1 h2
    have := hq k (by omega)
    simpa [List.getD_eq_getElem?_getD, h1, h2] using this
end Go.Proofs.Ytncmpjpmcliomaa

namespace Go.Proofs.Ytncmpjpmcliomaa
open Go Go.AM
attribute [local irreducible] AWP CallK PureCall SubS HeapCall
/-- The words after a received word. -/
def nextW (p : Int × Bool × Bool) (w : List Int) : List Int :=
  bif p.2.2 then (bif p.2.1 then [p.1] else match w with | [] => [] | _ => w ++ [p.1]) else []
/-- The state and the list that is reported. -/
def stepW (w : List Int) : (List Int × List Int) × Lst × Bool :=
  if w.length < 20 then (([], w), (0, []), false)
  else if ck (w.take (w.length - 1)) ≠ w.getD (w.length - 1) 0 then (([], []), (0, []), false)
  else (([], []), (w.getD 0 0, (w.take (w.length - 1)).drop 1), true)
def cut2 (x : Int) : Int := if 2 < x then 2 else x
def pushS (b w : List Int) (x : Int) : (List Int × List Int) × Lst × Bool :=
  if (b ++ [cut2 x]).length < 17 then ((b ++ [cut2 x], w), (0, []), false) else stepW (nextW (wordS (b ++ [cut2 x])) w)
def stV (i j g1 g2 n1 n2 : Nat) : AV := .agg 2 fun k => bif Nat.beq k 0 then .row i g1 1 0 n1 else .row j g2 1 0 n2
def pushV (p : (List Int × List Int) × Lst × Bool) (g1 g2 : Nat) : AV := tupV [stV 200 201 g1 g2 p.1.1.length p.1.2.length, listV p.2.1.1 p.2.1.2, bb p.2.2]
def pushH (p : (List Int × List Int) × Lst × Bool) (g1 g2 : Nat) : List (Nat × AO) := [(200, rowL 5 .u8 g1 p.1.1), (201, rowL 23 .u16 g2 p.1.2)]
theorem push_end {H : Heap} {U : List Nat} {a0 a1 a2 : AV} {p : (List Int × List Int) × Lst × Bool} {h1 h2 : Nat} (B : List Nat) (R : List (Nat × Nat)) (hi : injR R = true) (hk : keysIn R [200, 201] = true) (h0 : VLe H B R a0 (stV 200 201 h1 h2 p.1.1.length p.1.2.length))
    (hl : VLe H B R a1 (listV p.2.1.1 p.2.1.2)) (hb : VLe H B R a2 (bb p.2.2)) (hh : AllH ⟨1, updF (fun _ => none) 0 (pack [a0, a1, a2]), H, U, X0⟩ B R (pushH p h1 h2)) :
    SubS ⟨1, updF (fun _ => none) 0 (pack [a0, a1, a2]), H, U, X0⟩ (mkSt 1 [(0, pushV p h1 h2)] (pushH p h1 h2)) := by
  refine SubS.mkN B R hi hk rfl ⟨⟨_, rfl, .tup 3 _ _ fun i hi => ?_⟩, trivial⟩ hh
  match i with
  | 0 => exact h0
  | 1 => exact hl
  | 2 => exact hb
theorem wordS_W (l : List Int) (hl : ∀ x ∈ l, 0 ≤ x ∧ x < 256) : W (wordS l).1 := by
  unfold wordS
  cases hg : goodB l with
  | false => exact ⟨Int.le_refl 0, show (0 : Int) < 65536 by decide⟩
  | true =>
    simp only [goodB, Bool.and_eq_true, List.all_eq_true, decide_eq_true_eq, beq_iff_eq] at hg
    have := wval_lt ((l.take 16).drop 1) (fun x hx => by
      have hx := List.mem_of_mem_take (List.mem_of_mem_drop hx)
      exact ⟨(hl x hx).1, hg.1.2 x hx⟩)
    have h15 : ((l.take 16).drop 1).length = 15 := by simp; omega
    rw [h15] at this
    exact ⟨this.1, by show wval _ < 65536; omega⟩
theorem IsL.pre {f : Nat → Nat → AV} {k : IntKind} {L M : List Int} (h : IsL f k (L ++ M)) : IsL f k L := fun i hi => by
  rw [h i (by rw [List.length_append]; omega), List.getD_eq_getElem?_getD, List.getD_eq_getElem?_getD, List.getElem?_append_left hi]
theorem IsL.sub {f : Nat → Nat → AV} {k : IntKind} {L : List Int} {o n : Nat} (h : IsL f k L) (hn : o + n ≤ L.length) : IsL (fun i j => f (o + i) j) k ((L.drop o).take n) := fun i hi => by
  have hi : i < n := by simp at hi; omega
  show f (o + i) 0 = _
  rw [h (o + i) (by omega), List.getD_eq_getElem?_getD, List.getD_eq_getElem?_getD, List.getElem?_take_of_lt hi, List.getElem?_drop]
theorem opSem_neq {T : Tab} {k : IntKind} {xT rT : TypeId} {x y : Operand} {d : Nat} {ev : Operand → Option AV} {H : Heap} {a b : Int} {Y : AV} (hx : ev x = some (.pv (.int k a))) (hy : ev y = some Y) (hY : Y = .pv (.int k b)) :
    opSem T (.binOp .neq xT x y rT) d ev H = some ⟨none, .pv (.bool (a != b)), .none⟩ := by
  subst hY
  show ((ev x).bind fun u => (ev y).bind fun v => _) = _
  rw [hx, hy]
  cases k <;> rfl
theorem stepW_20 {w : List Int} {v : Int} (h : w.length = 19) : stepW (w ++ [v]) = if ck w ≠ v then (([], []), (0, []), false) else (([], []), (w.getD 0 0, w.drop 1), true) := by
  unfold stepW
  have h1 : (w ++ [v]).length - 1 = w.length := by simp
  have h2 : (w ++ [v]).take w.length = w := by simp
  have h3 : (w ++ [v]).getD w.length 0 = v := by simp [List.getD_eq_getElem?_getD]
  have h4 : (w ++ [v]).getD 0 0 = w.getD 0 0 := by
    cases w with
    | nil => simp at h
    | cons y w => rfl
  rw [if_neg (by simp; omega), h1, h2, h3, h4]
theorem _root_.Go.AM.VLe.frzS {H : Heap} {B : List Nat} {U : List (Nat × Nat)} {id gen sz off len o' : Nat} {E : TypeId} {k : IntKind} {L M : List Int} (o : AO) (hb : memN id B = true) (ho : H id = some o) (hg : gen = o.gen) (h1 : sz = 1) (hs : o.sz = 1)
    (hM : M = (L.drop o').take len) (hoff : off = o') (hn : off + len ≤ o.n) (hl : off + len ≤ L.length) (h : IsL o.f k L) : VLe H B U (.row id gen sz off len) (.pv (sq E k M)) := by
  subst hoff; subst hM
  exact .frzL o hb ho hg h1 hs hn (by simp; omega) (IsL.sub h hl)
theorem f34 (b w : List Int) (x : Int) (g1 g2 : Nat) (hx : 0 ≤ x ∧ x < 256) (hb : ∀ y ∈ b, 0 ≤ y ∧ y < 256) (hw : ∀ y ∈ w, W y) (hbl : b.length < 17) (hwl : w.length < 20) :
    HeapCall Try.prog 34 [stV 100 101 g1 g2 b.length w.length, u8 x] [(100, rowL 5 .u8 g1 b), (101, rowL 23 .u16 g2 w)]
      (fun r Hout => ∃ h1 h2, r = pushV (pushS b w x) h1 h2 ∧ Hout = pushH (pushS b w x) h1 h2) := by
  obtain ⟨c, hc⟩ : ∃ c, c = cut2 x := ⟨_, rfl⟩
  have hcr : 0 ≤ c ∧ c < 256 := by subst hc; unfold cut2; omega
  refine HeapCall.run tab_ok mixed (by kernel_rfl) Try.func34 rfl rfl rfl ?_
  conv => whnf
  repeat (refine ⟨⟨rfl, rfl, nle rfl, nle rfl⟩, ?_⟩; conv => whnf)
  refine ⟨⟨⟨rfl, rfl, rfl, nle rfl⟩, rfl, rfl, rfl, rfl, rfl, rfl, show (b.length + 1) * 1 ≤ 140737488355328 by omega⟩, ?_⟩
  conv => whnf
  repeat (refine ⟨⟨rfl, rfl, nle rfl, nle rfl⟩, ?_⟩; conv => whnf)
  have hbx : (b ++ [c]).length = b.length + 1 := by simp
  refine ⟨fun hc17 => ?_, fun hc17 => ?_⟩
  · have hc17 := of_decide_eq_true hc17
    conv => whnf
    repeat (refine ⟨⟨rfl, rfl, nle rfl, nle rfl⟩, ?_⟩; conv => whnf)
    have hps : pushS b w x = ((b ++ [c], w), (0, []), false) := by unfold pushS; rw [← hc, if_pos (by omega)]
    refine ⟨_, _, ⟨g1 + 1, g2, rfl, rfl⟩, push_end [] [(200, 100), (201, 101)] rfl rfl ?_ ?_ ?_ ?_⟩
    all_goals rw [hps]
    · refine .agg 2 _ _ fun i hi => ?_
      match i with
      | 0 => exact .row _ _ _ _ _ _ _ _ _ rfl rfl rfl hbx.symm
      | 1 => exact .row _ _ _ _ _ _ _ _ _ rfl rfl rfl rfl
    · refine .agg 2 _ _ fun i hi => ?_
      match i with
      | 0 => exact .same
      | 1 => exact .nilL
    · exact .same
    · refine ⟨.inl ⟨_, _, rfl, rfl, rfl, OLe.rowL rfl rfl rfl (Nat.le_of_eq hbx) ?_⟩, .inl ⟨_, _, rfl, rfl, rfl, OLe.rowL rfl rfl rfl (Nat.le_refl _) IsL.seq⟩, trivial⟩
      try dsimp only
      rw [hc]
      exact IsL.cat' b [cut2 x] rfl rfl rfl IsL.seq (IsL.one rfl)
  have hc17 := of_decide_eq_false hc17
  conv => whnf
  repeat (refine ⟨⟨rfl, rfl, nle rfl, nle rfl⟩, ?_⟩; conv => whnf)
  obtain ⟨L, hL⟩ : ∃ L, L = b ++ [c] := ⟨_, rfl⟩
  have hLw : ∀ y ∈ L, 0 ≤ y ∧ y < 256 := fun y hy => by
    rw [hL] at hy
    rcases List.mem_append.mp hy with hy | hy
    · exact hb y hy
    · rw [List.mem_singleton.mp hy]; exact hcr
  have hps : pushS b w x = stepW (nextW (wordS L) w) := by unfold pushS; rw [← hc, ← hL, if_neg (by rw [hL]; omega)]
  refine CallK.flat [100] (f18 L (by rw [hL]; omega) hLw) ⟨.frz0 _ rfl rfl rfl rfl rfl (Nat.le_refl _) (by rw [hL]; exact hbx.symm) ?_, trivial⟩ rfl ?_
  · try dsimp only
    rw [hL, hc]
    exact IsL.cat' b [cut2 x] rfl rfl rfl IsL.seq (IsL.one rfl)
  have hv := wordS_W L hLw
  obtain ⟨⟨v, first, ok⟩, hp⟩ : ∃ p, p = wordS L := ⟨_, rfl⟩
  rw [← hp] at hps hv ⊢
  conv => whnf
  repeat (refine ⟨⟨rfl, rfl, nle rfl, nle rfl⟩, ?_⟩; conv => whnf)
  refine ⟨⟨by omega, by omega, rfl⟩, ?_⟩
  conv => whnf
  repeat (refine ⟨⟨rfl, rfl, nle rfl, nle rfl⟩, ?_⟩; conv => whnf)
  refine ⟨fun hok => ?_, fun hok => ?_⟩
  · have hok : ok = false := by simpa using hok
    have hps : pushS b w x = (([], []), (0, []), false) := by rw [hps, hok]; rfl
    conv => whnf
    repeat (refine ⟨⟨rfl, rfl, nle rfl, nle rfl⟩, ?_⟩; conv => whnf)
    refine ⟨fun _ => ?_, fun h => absurd (of_decide_eq_false h) (by decide)⟩
    conv => whnf
    repeat (refine ⟨⟨rfl, rfl, nle rfl, nle rfl⟩, ?_⟩; conv => whnf)
    refine ⟨_, _, ⟨g1 + 1, 0, rfl, rfl⟩, push_end [] [(200, 100)] rfl rfl ?_ ?_ ?_ ?_⟩
    all_goals rw [hps]
    · refine .agg 2 _ _ fun i hi => ?_
      match i with
      | 0 => exact .row _ _ _ _ _ _ _ _ _ rfl rfl rfl rfl
      | 1 => exact .void _ _ _
    · refine .agg 2 _ _ fun i hi => ?_
      match i with
      | 0 => exact .same
      | 1 => exact .nilL
    · exact .same
    · refine ⟨.inl ⟨_, _, rfl, rfl, rfl, OLe.rowL rfl rfl rfl (Nat.zero_le _) IsL.nil⟩, .inr ⟨rfl, rfl⟩, trivial⟩
  have hok : ok = true := by simpa using hok
  subst hok
  conv => whnf
  refine ⟨fun hf => ?_, fun hf => ?_⟩
  · have hf : first = true := hf
    subst hf
    have hps : pushS b w x = (([], [v]), (0, []), false) := hps
    conv => whnf
    repeat (refine ⟨⟨rfl, rfl, nle rfl, nle rfl⟩, ?_⟩; conv => whnf)
    refine ⟨fun _ => ?_, fun h => absurd (of_decide_eq_false h) (by decide)⟩
    conv => whnf
    repeat (refine ⟨⟨rfl, rfl, nle rfl, nle rfl⟩, ?_⟩; conv => whnf)
    refine ⟨_, _, ⟨g1 + 1, 0, rfl, rfl⟩, push_end [] [(200, 100), (201, 43)] rfl rfl ?_ ?_ ?_ ?_⟩
    all_goals rw [hps]
    · refine .agg 2 _ _ fun i hi => ?_
      match i with
      | 0 => exact .row _ _ _ _ _ _ _ _ _ rfl rfl rfl rfl
      | 1 => exact .row _ _ _ _ _ _ _ _ _ rfl rfl rfl rfl
    · refine .agg 2 _ _ fun i hi => ?_
      match i with
      | 0 => exact .same
      | 1 => exact .nilL
    · exact .same
    · refine ⟨.inl ⟨_, _, rfl, rfl, rfl, OLe.rowL rfl rfl rfl (Nat.zero_le _) IsL.nil⟩, .inl ⟨_, _, rfl, rfl, rfl, OLe.rowL rfl rfl rfl (Nat.le_refl _) (IsL.one rfl)⟩, trivial⟩
  have hf : first = false := hf
  subst hf
  conv => whnf
  repeat (refine ⟨⟨rfl, rfl, nle rfl, nle rfl⟩, ?_⟩; conv => whnf)
  refine ⟨fun h0 => ?_, fun h0 => ?_⟩
  · have h0 := of_decide_eq_true h0
    have hnx : nextW (v, false, true) w = w ++ [v] := by
      cases w with
      | nil => simp at h0
      | cons y w => rfl
    rw [hnx] at hps
    conv => whnf
    repeat (refine ⟨⟨rfl, rfl, nle rfl, nle rfl⟩, ?_⟩; conv => whnf)
    refine ⟨⟨⟨rfl, rfl, rfl, nle rfl⟩, rfl, rfl, rfl, rfl, rfl, rfl, show (w.length + 1) * 2 ≤ 140737488355328 by omega⟩, ?_⟩
    conv => whnf
    repeat (refine ⟨⟨rfl, rfl, nle rfl, nle rfl⟩, ?_⟩; conv => whnf)
    have hwv : (w ++ [v]).length = w.length + 1 := by simp
    refine ⟨fun h20 => ?_, fun h20 => ?_⟩
    · have h20 := of_decide_eq_true h20
      have hps : pushS b w x = (([], w ++ [v]), (0, []), false) := by rw [hps]; unfold stepW; rw [if_pos (by omega)]
      conv => whnf
      repeat (refine ⟨⟨rfl, rfl, nle rfl, nle rfl⟩, ?_⟩; conv => whnf)
      refine ⟨_, _, ⟨g1 + 1, g2 + 1, rfl, rfl⟩, push_end [] [(200, 100), (201, 101)] rfl rfl ?_ ?_ ?_ ?_⟩
      all_goals rw [hps]
      · refine .agg 2 _ _ fun i hi => ?_
        match i with
        | 0 => exact .row _ _ _ _ _ _ _ _ _ rfl rfl rfl rfl
        | 1 => exact .row _ _ _ _ _ _ _ _ _ rfl rfl rfl hwv.symm
      · refine .agg 2 _ _ fun i hi => ?_
        match i with
        | 0 => exact .same
        | 1 => exact .nilL
      · exact .same
      · refine ⟨.inl ⟨_, _, rfl, rfl, rfl, OLe.rowL rfl rfl rfl (Nat.zero_le _) IsL.nil⟩, .inl ⟨_, _, rfl, rfl, rfl, OLe.rowL rfl rfl rfl (Nat.le_of_eq hwv) ?_⟩, trivial⟩
        try dsimp only
        exact IsL.cat' w [v] rfl rfl rfl IsL.seq (IsL.one rfl)
    have h20 := of_decide_eq_false h20
    conv => whnf
    repeat (refine ⟨⟨rfl, rfl, nle rfl, nle rfl⟩, ?_⟩; conv => whnf)
    have hl19 : w.length = 19 := by omega
    refine ⟨⟨by unfold inI64; omega⟩, ?_⟩
    conv => whnf
    refine ⟨⟨by omega, by omega, rfl⟩, ?_⟩
    conv => whnf
    have hsw := stepW_20 (w := w) (v := v) hl19
    refine ⟨_, [101], ⟨_, f31 w (by omega) hw, ⟨.frz0 _ rfl rfl rfl rfl rfl (show _ ≤ w.length + 1 by omega) (by omega) ?_, trivial⟩, .inl rfl⟩, ?_⟩
    · try dsimp only
      exact IsL.pre (IsL.cat' w [v] rfl rfl rfl IsL.seq (IsL.one rfl))
    conv => whnf
    refine ⟨⟨by omega, by omega, rfl⟩, ?_⟩
    conv => whnf
    repeat (refine ⟨⟨rfl, rfl, show _ < w.length + 1 by omega, nle rfl⟩, ?_⟩; conv => whnf)
    rw [opSem_neq (a := ck w) (b := v) rfl rfl ?_]
    · conv => whnf
      refine ⟨rfl, ?_⟩
      conv => whnf
      refine ⟨fun hn => ?_, fun hn => ?_⟩
      · have hn : (ck w != v) = true := hn
        have hps : pushS b w x = (([], []), (0, []), false) := by rw [hps, hsw, if_pos (by simpa using hn)]
        conv => whnf
        repeat (refine ⟨⟨rfl, rfl, nle rfl, nle rfl⟩, ?_⟩; conv => whnf)
        refine ⟨_, _, ⟨g1 + 1, 0, rfl, rfl⟩, push_end [] [(200, 100)] rfl rfl ?_ ?_ ?_ ?_⟩
        all_goals rw [hps]
        · refine .agg 2 _ _ fun i hi => ?_
          match i with
          | 0 => exact .row _ _ _ _ _ _ _ _ _ rfl rfl rfl rfl
          | 1 => exact .void _ _ _
        · refine .agg 2 _ _ fun i hi => ?_
          match i with
          | 0 => exact .same
          | 1 => exact .nilL
        · exact .same
        · refine ⟨.inl ⟨_, _, rfl, rfl, rfl, OLe.rowL rfl rfl rfl (Nat.zero_le _) IsL.nil⟩, .inr ⟨rfl, rfl⟩, trivial⟩
      · have hn : (ck w != v) = false := hn
        have hps : pushS b w x = (([], []), (w.getD 0 0, w.drop 1), true) := by rw [hps, hsw, if_neg (by simpa using hn)]
        obtain ⟨y, w', rfl⟩ : ∃ y w', w = y :: w' := by
          cases w with
          | nil => simp at hl19
          | cons y w' => exact ⟨y, w', rfl⟩
        have hl18 : w'.length = 18 := by simpa using hl19
        conv => whnf
        repeat (refine ⟨⟨rfl, rfl, nle rfl, nle rfl⟩, ?_⟩; conv => whnf)
        refine ⟨⟨by omega, by omega, rfl⟩, ?_⟩
        conv => whnf
        repeat (refine ⟨⟨rfl, rfl, nle rfl, nle rfl⟩, ?_⟩; conv => whnf)
        refine ⟨⟨by omega, by omega, Int.le_refl _, by omega, rfl⟩, ?_⟩
        conv => whnf
        repeat (refine ⟨⟨rfl, rfl, nle rfl, nle rfl⟩, ?_⟩; conv => whnf)
        refine ⟨rfl, ?_⟩
        conv => whnf
        repeat (refine ⟨⟨rfl, rfl, nle rfl, nle rfl⟩, ?_⟩; conv => whnf)
        refine ⟨_, _, ⟨g1 + 1, 0, rfl, rfl⟩, push_end [101] [(200, 100)] rfl rfl ?_ ?_ ?_ ?_⟩
        all_goals rw [hps]
        · refine .agg 2 _ _ fun i hi => ?_
          match i with
          | 0 => exact .row _ _ _ _ _ _ _ _ _ rfl rfl rfl rfl
          | 1 => exact .void _ _ _
        · refine .agg 2 _ _ fun i hi => ?_
          match i with
          | 0 => exact .same
          | 1 =>
            refine VLe.frzS (L := (y :: w') ++ [v]) (o' := 1) _ rfl rfl rfl rfl rfl ?_ rfl (show 0 + Int.toNat 1 + _ ≤ (y :: w').length + 1 by simp; omega) (by simp; omega) ?_
            · simp
            · try dsimp only
              exact IsL.cat' (y :: w') [v] rfl rfl rfl IsL.seq (IsL.one rfl)
        · exact .same
        · refine ⟨.inl ⟨_, _, rfl, rfl, rfl, OLe.rowL rfl rfl rfl (Nat.zero_le _) IsL.nil⟩, .inr ⟨rfl, rfl⟩, trivial⟩
    · have hi : 0 + (((w.length + 1 : Nat) : Int) - 1).toNat = w.length := by omega
      simp only [valueOf, TK.agg, cond_false, catF]
      rw [hi]
      rw [show Nat.ble (w.length + 1) w.length = false from by rw [← Bool.not_eq_true, Nat.ble_eq]; omega, Nat.sub_self]
      rfl
  · have h0 := of_decide_eq_false h0
    have hw0 : w = [] := by
      cases w with
      | nil => rfl
      | cons y w => simp at h0
    have hps : pushS b w x = (([], w), (0, []), false) := by rw [hps, hw0]; rfl
    conv => whnf
    repeat (refine ⟨⟨rfl, rfl, nle rfl, nle rfl⟩, ?_⟩; conv => whnf)
    refine ⟨fun _ => ?_, fun h => absurd (of_decide_eq_false h) (by omega)⟩
    conv => whnf
    repeat (refine ⟨⟨rfl, rfl, nle rfl, nle rfl⟩, ?_⟩; conv => whnf)
    refine ⟨_, _, ⟨g1 + 1, g2, rfl, rfl⟩, push_end [] [(200, 100), (201, 101)] rfl rfl ?_ ?_ ?_ ?_⟩
    all_goals rw [hps]
    · refine .agg 2 _ _ fun i hi => ?_
      match i with
      | 0 => exact .row _ _ _ _ _ _ _ _ _ rfl rfl rfl rfl
      | 1 => exact .row _ _ _ _ _ _ _ _ _ rfl rfl rfl rfl
    · refine .agg 2 _ _ fun i hi => ?_
      match i with
      | 0 => exact .same
      | 1 => exact .nilL
    · exact .same
    · refine ⟨.inl ⟨_, _, rfl, rfl, rfl, OLe.rowL rfl rfl rfl (Nat.zero_le _) IsL.nil⟩, .inl ⟨_, _, rfl, rfl, rfl, OLe.rowL rfl rfl rfl (Nat.le_refl _) IsL.seq⟩, trivial⟩
end Go.Proofs.Ytncmpjpmcliomaa

namespace Go.Proofs.Ytncmpjpmcliomaa
open Go Go.AM
attribute [local irreducible] AWP CallK PureCall SubS HeapCall
/-- A state between two bits. -/
def StOk (b w : List Int) : Prop := b.length < 17 ∧ w.length < 20 ∧ (∀ y ∈ b, 0 ≤ y ∧ y < 256) ∧ ∀ y ∈ w, W y
theorem push_ok {b w : List Int} {x : Int} (h : StOk b w) (hx : 0 ≤ x ∧ x < 256) : StOk (pushS b w x).1.1 (pushS b w x).1.2 ∧ (pushS b w x).2.1.2.length ≤ 18 := by
  obtain ⟨h1, h2, h3, h4⟩ := h
  have hc : 0 ≤ cut2 x ∧ cut2 x < 256 := by unfold cut2; split <;> omega
  have hL : ∀ y ∈ b ++ [cut2 x], 0 ≤ y ∧ y < 256 := fun y hy => by
    rcases List.mem_append.mp hy with hy | hy
    · exact h3 y hy
    · rw [List.mem_singleton.mp hy]; exact hc
  unfold pushS
  split
  · rename_i h; exact ⟨⟨h, h2, hL, h4⟩, Nat.zero_le _⟩
  have hw := wordS_W _ hL
  obtain ⟨⟨v, f, ok⟩, hp⟩ : ∃ p, p = wordS (b ++ [cut2 x]) := ⟨_, rfl⟩
  rw [← hp] at hw ⊢
  have hn : (nextW (v, f, ok) w).length ≤ 20 ∧ ∀ y ∈ nextW (v, f, ok) w, W y := by
    cases ok with
    | false => exact ⟨Nat.zero_le _, fun y hy => by cases hy⟩
    | true =>
      cases f with
      | true => exact ⟨by show 1 ≤ 20; omega, fun y hy => by
          have : y ∈ [v] := hy
          rw [List.mem_singleton.mp this]; exact hw⟩
      | false =>
        cases w with
        | nil => exact ⟨Nat.zero_le _, fun y hy => by cases hy⟩
        | cons z w =>
          refine ⟨by show ((z :: w) ++ [v]).length ≤ 20; rw [List.length_append]; simp only [List.length_cons, List.length_nil] at h2 ⊢; omega, fun y hy => ?_⟩
          have hy : y ∈ (z :: w) ++ [v] := hy
          rcases List.mem_append.mp hy with hy | hy
          · exact h4 y hy
          · rw [List.mem_singleton.mp hy]; exact hw
  generalize nextW (v, f, ok) w = n at hn
  unfold stepW
  split
  · rename_i h; exact ⟨⟨by simp, h, fun y hy => (by cases hy), hn.2⟩, Nat.zero_le _⟩
  · split
    · exact ⟨⟨by simp, by simp, fun y hy => (by cases hy), fun y hy => (by cases hy)⟩, Nat.zero_le _⟩
    · exact ⟨⟨by simp, by simp, fun y hy => (by cases hy), fun y hy => (by cases hy)⟩, by simp; omega⟩
/-- The decoder after so many bits: its state and the lists that were reported. -/
def decN (l : List Int) : Nat → (List Int × List Int) × List Lst
  | 0 => (([], []), [])
  | i + 1 => ((pushS (decN l i).1.1 (decN l i).1.2 (l.getD i 0)).1, bif (pushS (decN l i).1.1 (decN l i).1.2 (l.getD i 0)).2.2 then (decN l i).2 ++ [(pushS (decN l i).1.1 (decN l i).1.2 (l.getD i 0)).2.1] else (decN l i).2)
theorem getD_bd {l : List Int} (hw : ∀ x ∈ l, 0 ≤ x ∧ x < 256) (i : Nat) : 0 ≤ l.getD i 0 ∧ l.getD i 0 < 256 := by
  rw [List.getD_eq_getElem?_getD]
  by_cases h : i < l.length
  · rw [List.getElem?_eq_getElem h]; exact hw _ (List.getElem_mem h)
  · rw [List.getElem?_eq_none (by omega)]; exact ⟨Int.le_refl 0, show (0 : Int) < 256 by decide⟩
theorem dec_ok {l : List Int} (hw : ∀ x ∈ l, 0 ≤ x ∧ x < 256) : ∀ i, StOk (decN l i).1.1 (decN l i).1.2 ∧ (decN l i).2.length ≤ i ∧ ∀ x ∈ (decN l i).2, x.2.length ≤ 18 := by
  intro i
  induction i with
  | zero => exact ⟨⟨Nat.zero_lt_succ _, Nat.zero_lt_succ _, fun y hy => (by cases hy), fun y hy => (by cases hy)⟩, Nat.le_refl _, fun y hy => (by cases hy)⟩
  | succ i ih =>
    obtain ⟨h1, h2, h3⟩ := ih
    obtain ⟨k1, k2⟩ := push_ok h1 (getD_bd hw i)
    simp only [decN]
    generalize pushS (decN l i).1.1 (decN l i).1.2 (l.getD i 0) = p at k1 k2
    refine ⟨k1, ?_⟩
    cases p.2.2 with
    | false => exact ⟨by show (decN l i).2.length ≤ i + 1; omega, h3⟩
    | true =>
      refine ⟨by simp; omega, fun x hx => ?_⟩
      rcases List.mem_append.mp hx with hx | hx
      · exact h3 x hx
      · rw [List.mem_singleton.mp hx]; exact k2
def decS (l : List Int) : List Lst := (decN l l.length).2
/-- A row of lists. -/
def outR (g : Nat) (o : List Lst) : AO := ⟨26, g, 2, o.length, fun i j => .pv (cellP (o.getD i (0, [])) j)⟩
def stB (p : List Int × List Int) (g1 g2 : Nat) : AO := ⟨61, 0, 2, 1, fun _ k => bif Nat.beq k 0 then .row 1000 g1 1 0 p.1.length else .row 1001 g2 1 0 p.2.length⟩
theorem _root_.Go.AM.VLe.snoc {H : Heap} {B : List Nat} {U : List (Nat × Nat)} {f g : Nat → Nat → AV} {n i j : Nat} {v : AV} (hi : i < n + 1) (h1 : i < n → VLe H B U (f i j) v) (h2 : i = n → VLe H B U (g 0 j) v) : VLe H B U (catF f g n i j) v := by
  unfold catF
  by_cases h : i < n
  · rw [Nat.ble_eq_true_of_le h]; exact h1 h
  · have hb : Nat.ble (i + 1) n = false := by rw [← Bool.not_eq_true, Nat.ble_eq]; exact h
    have : i = n := by omega
    rw [hb, show i - n = 0 by omega]; exact h2 this
theorem f21 (l : List Int) (hl : l.length < 2 ^ 40) (hw : ∀ x ∈ l, 0 ≤ x ∧ x < 256) : PureCall Try.prog 21 [.pv (sb l)] (.pv (lsP (decS l))) := by
  refine PureCall.run tab_ok mixed (by kernel_rfl) Try.func21 rfl rfl rfl ?_
  conv => whnf
  refine ex_loop tab_ok mixed (fun x : Nat × Nat × Nat × Nat => x.1 ≤ l.length) (fun x : Nat × Nat × Nat × Nat => mkSt 31 [(10, .pv (sb l)), (11, i64 l.length), (12, i64 x.1), (3, .row 1003 x.2.2.2 2 0 (decN l x.1).2.length), (4, .ptr 4 0 2 0 0)]
      [(4, stB (decN l x.1).1 x.2.1 x.2.2.1), (1000, rowL 5 .u8 x.2.1 (decN l x.1).1.1), (1001, rowL 23 .u16 x.2.2.1 (decN l x.1).1.2), (1003, outR x.2.2.2 (decN l x.1).2)]) (fun x => l.length - x.1) (0, 0, 0, 0) (Nat.zero_le _) (SubS.mkN [] [(4, 4)] rfl rfl rfl ?_ ?_) fun x hx => ?_
  · exact ⟨⟨_, rfl, .same⟩, ⟨_, rfl, .same⟩, ⟨_, rfl, .same⟩, ⟨_, rfl, .void _ _ _⟩, ⟨_, rfl, .ptr _ _ _ _ _ _ _ _ _ rfl rfl rfl rfl⟩, trivial⟩
  · refine ⟨.inl ⟨_, _, rfl, rfl, rfl, rfl, rfl, rfl, Nat.le_refl _, fun i j hi hj => ?_⟩, .inr ⟨rfl, rfl⟩, .inr ⟨rfl, rfl⟩, .inr ⟨rfl, rfl⟩, trivial⟩
    match i, j with
    | 0, 0 => exact .void _ _ _
    | 0, 1 => exact .void _ _ _
  obtain ⟨i, g1, g2, g3⟩ := x
  have hi : i ≤ l.length := hx
  obtain ⟨hst, hol, hod⟩ := dec_ok hw i
  have hdN : decN l (i + 1) = ((pushS (decN l i).1.1 (decN l i).1.2 (l.getD i 0)).1, bif (pushS (decN l i).1.1 (decN l i).1.2 (l.getD i 0)).2.2 then (decN l i).2 ++ [(pushS (decN l i).1.1 (decN l i).1.2 (l.getD i 0)).2.1] else (decN l i).2) := rfl
  have hfin : i = l.length → decS l = (decN l i).2 := fun h => by unfold decS; rw [h]
  generalize decN l i = D at *
  obtain ⟨⟨b, w⟩, out⟩ := D
  conv => whnf
  refine ⟨fun hc => ?_, fun hc => ?_⟩
  · have hc : (i : Int) < l.length := of_decide_eq_true hc
    conv => whnf
    refine ⟨⟨by omega, by omega, rfl⟩, ?_⟩
    conv => whnf
    refine ⟨⟨Nat.le_refl _⟩, ?_⟩
    conv => whnf
    repeat (refine ⟨⟨rfl, rfl, nle rfl, nle rfl⟩, ?_⟩; conv => whnf)
    have hx := getD_bd hw i
    generalize hxx : l.getD i 0 = x at *
    refine CallK.heap (f34 b w x g1 g2 hx hst.2.2.1 hst.2.2.2 hst.1 hst.2.1) [] [(100, 1000), (101, 1001)] rfl rfl ⟨.agg _ _ _ fun k hk => ?_, .int hxx, trivial⟩ ⟨.inl ⟨_, _, rfl, rfl, rfl, OLe.rowL rfl rfl rfl (Nat.le_refl _) IsL.seq⟩, .inl ⟨_, _, rfl, rfl, rfl, OLe.rowL rfl rfl rfl (Nat.le_refl _) IsL.seq⟩, trivial⟩ 2000 rfl ?_
    · match k with
      | 0 => exact .row _ _ _ _ _ _ _ _ _ rfl rfl rfl rfl
      | 1 => exact .row _ _ _ _ _ _ _ _ _ rfl rfl rfl rfl
    rintro r Hout ⟨h1, h2, rfl, rfl⟩
    dsimp only at hdN
    generalize pushS b w x = p at hdN ⊢
    obtain ⟨⟨b', w'⟩, e, ok⟩ := p
    conv => whnf
    repeat (refine ⟨⟨rfl, rfl, nle rfl, nle rfl⟩, ?_⟩; conv => whnf)
    refine ⟨fun hok => ?_, fun hok => ?_⟩
    · have hok : ok = true := hok
      subst hok
      have hdN : decN l (i + 1) = ((b', w'), out ++ [e]) := hdN
      conv => whnf
      repeat (refine ⟨⟨rfl, rfl, nle rfl, nle rfl⟩, ?_⟩; conv => whnf)
      refine ⟨⟨⟨rfl, rfl, rfl, nle rfl⟩, rfl, rfl, rfl, rfl, rfl, rfl, show (out.length + 1) * 32 ≤ 140737488355328 by have : out.length ≤ i := hol; omega⟩, ?_⟩
      conv => whnf
      repeat (refine ⟨⟨rfl, rfl, nle rfl, nle rfl⟩, ?_⟩; conv => whnf)
      refine ⟨⟨by unfold inI64; omega⟩, ?_⟩
      conv => whnf
      refine ⟨(i + 1, h1, h2, g3 + 1), by show i + 1 ≤ l.length; omega, SubS.mkN [] [(4, 4), (1000, 2200), (1001, 2201), (1003, 1003)] rfl rfl rfl ?_ ?_, by show l.length - (i + 1) < l.length - i; omega⟩
      · refine ⟨⟨_, rfl, .same⟩, ⟨_, rfl, .same⟩, ⟨_, rfl, .same⟩, ⟨_, rfl, ?_⟩, ⟨_, rfl, .ptr _ _ _ _ _ _ _ _ _ rfl rfl rfl rfl⟩, trivial⟩
        show VLe _ _ _ _ (.row 1003 _ 2 0 (decN l (i + 1)).2.length)
        rw [hdN]
        exact .row _ _ _ _ _ _ _ _ _ rfl rfl rfl (by simp)
      show AllH _ _ _ [(4, stB (decN l (i + 1)).1 h1 h2), (1000, rowL 5 .u8 h1 (decN l (i + 1)).1.1), (1001, rowL 23 .u16 h2 (decN l (i + 1)).1.2), (1003, outR _ (decN l (i + 1)).2)]
      rw [hdN]
      refine ⟨.inl ⟨_, _, rfl, rfl, rfl, rfl, rfl, rfl, Nat.le_refl _, fun i j hi hj => ?_⟩, .inl ⟨_, _, rfl, rfl, rfl, OLe.rowL rfl rfl rfl (Nat.le_refl _) IsL.seq⟩, .inl ⟨_, _, rfl, rfl, rfl, OLe.rowL rfl rfl rfl (Nat.le_refl _) IsL.seq⟩, .inl ⟨_, _, rfl, rfl, rfl, rfl, rfl, rfl, (by simp [outR]), fun i j hi hj => ?_⟩, trivial⟩
      · match i, j with
        | 0, 0 => exact .row _ _ _ _ _ _ _ _ _ rfl rfl rfl rfl
        | 0, 1 => exact .row _ _ _ _ _ _ _ _ _ rfl rfl rfl rfl
      · have hi : i < out.length + 1 := by simpa [outR] using hi
        dsimp only
        refine VLe.snoc hi (fun h => ?_) fun h => ?_
        · show VLe _ _ _ _ (.pv (cellP ((out ++ [e]).getD i (0, [])) j))
          rw [show (out ++ [e]).getD i (0, []) = out.getD i (0, []) by rw [List.getD_eq_getElem?_getD, List.getD_eq_getElem?_getD, List.getElem?_append_left h]]
          exact .same
        · show VLe _ _ _ _ (.pv (cellP ((out ++ [e]).getD i (0, [])) j))
          rw [show (out ++ [e]).getD i (0, []) = e by subst h; simp [List.getD_eq_getElem?_getD]]
          match j with
          | 0 => exact .same
          | 1 => exact .same
    · have hok : ok = false := hok
      subst hok
      have hdN : decN l (i + 1) = ((b', w'), out) := hdN
      conv => whnf
      repeat (refine ⟨⟨rfl, rfl, nle rfl, nle rfl⟩, ?_⟩; conv => whnf)
      refine ⟨⟨by unfold inI64; omega⟩, ?_⟩
      conv => whnf
      refine ⟨(i + 1, h1, h2, g3), by show i + 1 ≤ l.length; omega, SubS.mkN [] [(4, 4), (1000, 2200), (1001, 2201), (1003, 1003)] rfl rfl rfl ?_ ?_, by show l.length - (i + 1) < l.length - i; omega⟩
      · refine ⟨⟨_, rfl, .same⟩, ⟨_, rfl, .same⟩, ⟨_, rfl, .same⟩, ⟨_, rfl, ?_⟩, ⟨_, rfl, .ptr _ _ _ _ _ _ _ _ _ rfl rfl rfl rfl⟩, trivial⟩
        show VLe _ _ _ _ (.row 1003 _ 2 0 (decN l (i + 1)).2.length)
        rw [hdN]
        exact .row _ _ _ _ _ _ _ _ _ rfl rfl rfl rfl
      show AllH _ _ _ [(4, stB (decN l (i + 1)).1 h1 h2), (1000, rowL 5 .u8 h1 (decN l (i + 1)).1.1), (1001, rowL 23 .u16 h2 (decN l (i + 1)).1.2), (1003, outR _ (decN l (i + 1)).2)]
      rw [hdN]
      refine ⟨.inl ⟨_, _, rfl, rfl, rfl, rfl, rfl, rfl, Nat.le_refl _, fun i j hi hj => ?_⟩, .inl ⟨_, _, rfl, rfl, rfl, OLe.rowL rfl rfl rfl (Nat.le_refl _) IsL.seq⟩, .inl ⟨_, _, rfl, rfl, rfl, OLe.rowL rfl rfl rfl (Nat.le_refl _) IsL.seq⟩, .inl ⟨_, _, rfl, rfl, rfl, rfl, rfl, rfl, Nat.le_refl _, fun i j hi hj => ?_⟩, trivial⟩
      · match i, j with
        | 0, 0 => exact .row _ _ _ _ _ _ _ _ _ rfl rfl rfl rfl
        | 0, 1 => exact .row _ _ _ _ _ _ _ _ _ rfl rfl rfl rfl
      · exact .same
  · have hc : ¬ (i : Int) < l.length := of_decide_eq_false hc
    have hfin := hfin (by omega)
    conv => whnf
    repeat (refine ⟨⟨rfl, rfl, nle rfl, nle rfl⟩, ?_⟩; conv => whnf)
    rw [hfin]
    refine ⟨[1003], .frz _ _ _ _ _ _ _ _ rfl rfl rfl rfl (by simp [outR]) fun i j hi hj => ?_⟩
    rw [Nat.zero_add]
    exact .same
end Go.Proofs.Ytncmpjpmcliomaa

namespace Go.Proofs.Ytncmpjpmcliomaa
open Go Go.AM
attribute [local irreducible] AWP CallK PureCall SubS HeapCall
def twos : List Int := List.replicate 18 2
theorem f26 : PureCall Try.prog 26 [] (listV 1 twos) := by
  refine PureCall.run tab_ok mixed (by kernel_rfl) Try.func26 rfl rfl rfl ?_
  conv => whnf
  repeat (refine ⟨⟨rfl, rfl, nle rfl, nle rfl⟩, ?_⟩; conv => whnf)
  refine ex_loop tab_ok mixed (fun x : Nat × Nat => x.1 ≤ 18) (fun x : Nat × Nat => mkSt 14 [(0, .ptr 0 0 2 0 0), (1, .ptr 1 0 2 0 0), (2, i64 x.1)]
      [(0, ⟨26, 0, 2, 1, fun _ j => bif Nat.beq j 0 then i16 0 else .nilS⟩), (1, ⟨26, 0, 2, 1, fun _ j => bif Nat.beq j 0 then i16 1 else .row 1000 x.2 1 0 x.1⟩), (1000, rowL 23 .u16 x.2 (List.replicate x.1 2))]) (fun x => 18 - x.1) (0, 0) (Nat.zero_le _) (SubS.mkN [] [(0, 0), (1, 1)] rfl rfl rfl ?_ ?_) fun x hx => ?_
  · exact ⟨⟨_, rfl, .ptr _ _ _ _ _ _ _ _ _ rfl rfl rfl rfl⟩, ⟨_, rfl, .ptr _ _ _ _ _ _ _ _ _ rfl rfl rfl rfl⟩, ⟨_, rfl, .same⟩, trivial⟩
  · refine ⟨.inl ⟨_, _, rfl, rfl, rfl, rfl, rfl, rfl, Nat.le_refl _, fun i j hi hj => ?_⟩, .inl ⟨_, _, rfl, rfl, rfl, rfl, rfl, rfl, Nat.le_refl _, fun i j hi hj => ?_⟩, .inr ⟨rfl, rfl⟩, trivial⟩
    · match i, j with
      | 0, 0 => exact .same
      | 0, 1 => exact .nils
    · match i, j with
      | 0, 0 => exact .same
      | 0, 1 => exact .void _ _ _
  obtain ⟨i, g⟩ := x
  have hi : i ≤ 18 := hx
  conv => whnf
  refine ⟨fun hc => ?_, fun hc => ?_⟩
  · have hc : (i : Int) < 18 := of_decide_eq_true hc
    conv => whnf
    repeat (refine ⟨⟨rfl, rfl, nle rfl, nle rfl⟩, ?_⟩; conv => whnf)
    refine ⟨⟨⟨rfl, rfl, rfl, nle rfl⟩, rfl, rfl, rfl, rfl, rfl, (show i = (List.replicate i 2).length by simp), show (i + 1) * 2 ≤ 140737488355328 by omega⟩, ?_⟩
    conv => whnf
    repeat (refine ⟨⟨rfl, rfl, nle rfl, nle rfl⟩, ?_⟩; conv => whnf)
    refine ⟨⟨by unfold inI64; omega⟩, ?_⟩
    conv => whnf
    refine ⟨(i + 1, g + 1), by show i + 1 ≤ 18; omega, SubS.mkN [] [(0, 0), (1, 1), (1000, 1000)] rfl rfl rfl ?_ ?_, by show 18 - (i + 1) < 18 - i; omega⟩
    · exact ⟨⟨_, rfl, .ptr _ _ _ _ _ _ _ _ _ rfl rfl rfl rfl⟩, ⟨_, rfl, .ptr _ _ _ _ _ _ _ _ _ rfl rfl rfl rfl⟩, ⟨_, rfl, .same⟩, trivial⟩
    · refine ⟨.inl ⟨_, _, rfl, rfl, rfl, rfl, rfl, rfl, Nat.le_refl _, fun i' j hi' hj => ?_⟩, .inl ⟨_, _, rfl, rfl, rfl, rfl, rfl, rfl, Nat.le_refl _, fun i' j hi' hj => ?_⟩, .inl ⟨_, _, rfl, rfl, rfl, OLe.rowL rfl rfl rfl (by simp) ?_⟩, trivial⟩
      · match i', j with
        | 0, 0 => exact .same
        | 0, 1 => exact .nils
      · match i', j with
        | 0, 0 => exact .same
        | 0, 1 => exact .row _ _ _ _ _ _ _ _ _ rfl rfl rfl rfl
      · try dsimp only
        refine IsL.cat' (List.replicate i 2) [2] ?_ rfl (by simp) IsL.seq (IsL.one rfl)
        rw [List.replicate_succ']
  · have hc : ¬ (i : Int) < 18 := of_decide_eq_false hc
    have : i = 18 := by omega
    conv => whnf
    repeat (refine ⟨⟨rfl, rfl, nle rfl, nle rfl⟩, ?_⟩; conv => whnf)
    refine ⟨[1000], .agg _ _ _ fun k hk => ?_⟩
    match k with
    | 0 => exact .same
    | 1 =>
      refine .frz0 _ rfl rfl rfl rfl rfl (by simp [rowL]) (by show i = _; rw [this]; rfl) ?_
      show IsL _ _ (List.replicate 18 2)
      rw [← this]
      exact IsL.seq
def wT : List Int := 1 :: twos ++ [37]
def bT : List Int := sendN wT 20
theorem words_T : wordsS 1 twos = (wT, 0) := by decide +kernel
theorem words_0 : wordsS 0 [] = ([], 9) := by decide +kernel
theorem send_T : sendS 1 twos = (bT, 0) := by decide +kernel
theorem pre_T : bT.take 17 = [1,0,0,0,0,0,0,0,0,0,0,0,0,0,0,1,1] := by decide +kernel
theorem dec_T : decS bT = [(1, twos)] := by decide +kernel
theorem twos_W : ∀ x ∈ twos, W x := by unfold W; decide +kernel
theorem bT_bd : ∀ x ∈ bT, 0 ≤ x ∧ x < 256 := by decide +kernel
theorem w12 : PureCall Try.prog 12 [listV 1 twos] (wordsV (wT, 0)) := by
  have := f12 1 twos ⟨by decide, by decide⟩ twos_W (by decide)
  rwa [words_T] at this
theorem w14 : PureCall Try.prog 14 [listV 1 twos] (sendV (bT, 0)) := by
  have := f14 1 twos ⟨by decide, by decide⟩ twos_W (by decide)
  rwa [send_T] at this
theorem w12' : PureCall Try.prog 12 [listV 0 []] (wordsV ([], 9)) := by
  have := f12 0 [] ⟨by decide, by decide⟩ (fun x hx => by cases hx) (by decide)
  rwa [words_0] at this
theorem w21 : PureCall Try.prog 21 [.pv (sb bT)] (.pv (lsP [(1, twos)])) := by
  have := f21 bT (by decide +kernel) bT_bd
  rwa [dec_T] at this
theorem w20 : PureCall Try.prog 20 [.pv (lsP [(1, twos)]), .pv (lsP [(1, twos)])] (bb true) := by
  have := f20 [(1, twos)] [(1, twos)] (by decide) (by decide) (by decide +kernel) (by decide +kernel)
  rwa [decide_eq_true rfl] at this
theorem listV_le {H : Heap} {B : List Nat} {U : List (Nat × Nat)} {id : Int} {d : List Int} : VLe H B U (listV id d) (listV id d) := .agg _ _ _ fun _ _ => .same
theorem len_w : ((wT.length : Int) != 20) = false := by decide +kernel
theorem w19 : (wT.getD 19 0 != 37) = false := by decide +kernel
theorem lenT : wT.length = 20 := by decide +kernel
theorem lenB : bT.length = 340 := by decide +kernel
theorem len_b : ((bT.length : Int) != 340) = false := by decide +kernel
theorem str_T : (!((List.range 17).map (fun i => UInt8.ofNat (bT.getD i 0).toNat) == [1, 0, 0, 0, 0, 0, 0, 0, 0, 0, 0, 0, 0, 0, 0, 1, 1])) = false := by decide +kernel
attribute [local irreducible] wT bT twos
theorem awake : PureCall Try.prog 17 [] (bb true) := by
  refine PureCall.run tab_ok mixed (by kernel_rfl) Try.func17 rfl rfl rfl ?_
  conv => whnf
  refine CallK.drop [] f26 trivial ?_
  conv => whnf
  refine CallK.drop [] w12 ⟨listV_le, trivial⟩ ?_
  conv => whnf
  refine CallK.drop [] f26 trivial ?_
  conv => whnf
  refine CallK.drop [] w14 ⟨listV_le, trivial⟩ ?_
  conv => whnf
  refine CallK.drop [] w12' ⟨.agg _ _ _ fun i hi => ?_, trivial⟩ ?_
  · match i with
    | 0 => exact .same
    | 1 => exact .nilL
  conv => whnf
  repeat (refine ⟨fun _ => ?_, fun h => (by cases h)⟩; conv => whnf)
  refine ⟨fun _ => ?_, fun h => absurd ((len_w.symm.trans h)) (by decide)⟩
  conv => whnf
  repeat (refine ⟨fun _ => ?_, fun h => (by cases h)⟩; conv => whnf)
  have hT := lenT
  refine ⟨⟨by omega, show (19 : Int) < (wT.length : Int) by omega, rfl⟩, ?_⟩
  conv => whnf
  repeat (first
        | (refine ⟨fun _ => ?_, fun h => (by cases h)⟩; conv => whnf)
        | (refine ⟨⟨nle rfl⟩, ?_⟩; conv => whnf))
  refine ⟨fun _ => ?_, fun h => absurd ((w19.symm.trans h)) (by decide)⟩
  conv => whnf
  repeat (refine ⟨fun _ => ?_, fun h => (by cases h)⟩; conv => whnf)
  refine ⟨fun _ => ?_, fun h => absurd ((len_b.symm.trans h)) (by decide)⟩
  conv => whnf
  repeat (refine ⟨fun _ => ?_, fun h => (by cases h)⟩; conv => whnf)
  have hB := lenB
  refine ⟨⟨by omega, show (17 : Int) ≤ (bT.length : Int) by omega, rfl⟩, ?_⟩
  conv => whnf
  repeat (refine ⟨fun _ => ?_, fun h => (by cases h)⟩; conv => whnf)
  refine ⟨⟨rfl, fun _ _ => rfl⟩, ?_⟩
  conv => whnf
  repeat (refine ⟨fun _ => ?_, fun h => (by cases h)⟩; conv => whnf)
  refine ⟨fun _ => ?_, fun h => absurd ((str_T.symm.trans h)) (by decide)⟩
  conv => whnf
  repeat (refine ⟨fun _ => ?_, fun h => Bool.noConfusion h⟩; conv => whnf)
  refine ⟨fun h => Bool.noConfusion h, fun _ => ?_⟩
  conv => whnf
  refine CallK.drop [] w21 ⟨.same, trivial⟩ ?_
  conv => whnf
  refine CallK.drop [] f26 trivial ?_
  conv => whnf
  refine CallK.flat [57] w20 ⟨.same, .frz _ _ _ _ _ _ _ _ rfl rfl rfl rfl (nle rfl) fun i j hi hj => ?_, trivial⟩ rfl ?_
  · match i, j with
    | 0, 0 => exact .same
    | 0, 1 => exact .same
  conv => whnf
  exact done_bool _ _ rfl rfl rfl
end Go.Proofs.Ytncmpjpmcliomaa

namespace Go.Proofs.Ytncmpjpmcliomaa
open Go Go.AM
attribute [local irreducible] AWP CallK PureCall SubS HeapCall
theorem f4 (l : List Int) (hl : l.length < 2 ^ 62) (hw : ∀ x ∈ l, 0 ≤ x ∧ x < 256) : PureCall Try.prog 4 [.pv (sb l)] (bb true) := by
  refine PureCall.run tab_ok mixed (by kernel_rfl) Try.func4 rfl rfl rfl ?_
  conv => whnf
  refine CallK.flat [] (f18 l hl hw) ⟨.same, trivial⟩ rfl ?_
  conv => whnf
  refine CallK.flat [] (f19 l hl hw) ⟨.same, trivial⟩ rfl ?_
  generalize wordS l = p
  obtain ⟨v, f, ok⟩ := p
  conv => whnf
  repeat (first
    | (refine ⟨fun _ => ?_, fun h => Bool.noConfusion h⟩; conv => whnf)
    | (refine ⟨fun _ => ?_, fun h => absurd (h.symm.trans (beq_self_eq_true _)) (by decide)⟩; conv => whnf))
  refine CallK.flat [] awake trivial rfl ?_
  conv => whnf
  exact done_bool _ _ rfl rfl rfl
theorem f3 (id : Int) (d : List Int) (hid : W id) (hd : ∀ x ∈ d, W x) (hl : d.length < 2 ^ 60) : PureCall Try.prog 3 [listV id d] (bb true) := by
  refine PureCall.run tab_ok mixed (by kernel_rfl) Try.func3 rfl rfl rfl ?_
  conv => whnf
  repeat (refine ⟨⟨rfl, rfl, nle rfl, nle rfl⟩, ?_⟩; conv => whnf)
  refine CallK.drop [] (f12 id d hid hd (by omega)) ⟨.agg _ _ _ fun i hi => ?_, trivial⟩ ?_
  · match i with
    | 0 => exact .same
    | 1 => exact .same
  conv => whnf
  repeat (refine ⟨⟨rfl, rfl, nle rfl, nle rfl⟩, ?_⟩; conv => whnf)
  refine CallK.drop [] (f13 id d hid hd (by omega)) ⟨.agg _ _ _ fun i hi => ?_, trivial⟩ ?_
  · match i with
    | 0 => exact .same
    | 1 => exact .same
  conv => whnf
  repeat (refine ⟨⟨rfl, rfl, nle rfl, nle rfl⟩, ?_⟩; conv => whnf)
  refine CallK.drop [] (f14 id d hid hd (by omega)) ⟨.agg _ _ _ fun i hi => ?_, trivial⟩ ?_
  · match i with
    | 0 => exact .same
    | 1 => exact .same
  conv => whnf
  repeat (refine ⟨⟨rfl, rfl, nle rfl, nle rfl⟩, ?_⟩; conv => whnf)
  refine CallK.drop [] (f15 id d hid hd (by omega)) ⟨.agg _ _ _ fun i hi => ?_, trivial⟩ ?_
  · match i with
    | 0 => exact .same
    | 1 => exact .same
  have hwl : (wordsS id d).1.length < 2 ^ 62 := by
    unfold wordsS
    split
    · exact Nat.two_pow_pos _
    · split
      · exact Nat.two_pow_pos _
      · split
        · exact Nat.two_pow_pos _
        · simp; omega
  generalize wordsS id d = p at hwl ⊢
  obtain ⟨w, e⟩ := p
  generalize sendS id d = q
  obtain ⟨b, g⟩ := q
  conv => whnf
  repeat (first
    | (refine ⟨fun _ => ?_, fun h => Bool.noConfusion h⟩; conv => whnf)
    | (refine ⟨fun _ => ?_, fun h => absurd (h.symm.trans (beq_self_eq_true _)) (by decide)⟩; conv => whnf))
  refine CallK.flat [] (f16 w w hwl hwl) ⟨.same, .same, trivial⟩ rfl ?_
  rw [decide_eq_true (rfl : w = w)]
  conv => whnf
  repeat (first
    | (refine ⟨fun _ => ?_, fun h => Bool.noConfusion h⟩; conv => whnf)
    | (refine ⟨fun _ => ?_, fun h => absurd (h.symm.trans (beq_self_eq_true _)) (by decide)⟩; conv => whnf))
  refine ⟨⟨rfl, fun _ _ => rfl⟩, ?_⟩
  conv => whnf
  repeat (first
    | (refine ⟨fun _ => ?_, fun h => Bool.noConfusion h⟩; conv => whnf)
    | (refine ⟨fun _ => ?_, fun h => absurd (h.symm.trans (beq_self_eq_true _)) (by decide)⟩; conv => whnf))
  refine ⟨⟨rfl, fun _ _ => rfl⟩, ?_⟩
  conv => whnf
  repeat (first
    | (refine ⟨fun _ => ?_, fun h => Bool.noConfusion h⟩; conv => whnf)
    | (refine ⟨fun _ => ?_, fun h => absurd (h.symm.trans (beq_self_eq_true _)) (by decide)⟩; conv => whnf))
  refine CallK.flat [] awake trivial rfl ?_
  conv => whnf
  exact done_bool _ _ rfl rfl rfl
end Go.Proofs.Ytncmpjpmcliomaa

namespace Go.Proofs.Ytncmpjpmcliomaa
open Go Go.AM
attribute [local irreducible] AWP CallK PureCall SubS HeapCall
def stP (p : List Int × List Int) : AV := .agg 2 fun k => .pv (bif Nat.beq k 0 then sb p.1 else sw p.2)
theorem stP_le {H : Heap} {B : List Nat} {U : List (Nat × Nat)} {p : List Int × List Int} : VLe H B U (stP p) (stP p) := .agg _ _ _ fun _ _ => .same
def okS (p : List Int × List Int) : Bool := decide (p.1.length < 17) && decide (p.2.length < 20) && p.1.all (fun y => decide (y ≤ 2)) && p.2.all (fun y => decide (y ≤ 32767))
theorem all_of {l : List Int} {q : Int → Bool} (h : ∀ j, j < l.length → q (l.getD j 0) = true) : l.all q = true := by
  rw [List.all_eq_true]
  intro x hx
  obtain ⟨i, hi, rfl⟩ := List.getElem_of_mem hx
  have := h i hi
  rwa [List.getD_eq_getElem?_getD, List.getElem?_eq_getElem hi] at this
theorem not_all {l : List Int} {q : Int → Bool} {i : Nat} (hi : i < l.length) (h : q (l.getD i 0) = false) : l.all q = false := by
  rw [← Bool.not_eq_true, List.all_eq_true]
  intro hall
  have := hall (l.getD i 0) (by rw [List.getD_eq_getElem?_getD, List.getElem?_eq_getElem hi]; exact List.getElem_mem hi)
  rw [h] at this; cases this
def boxS (p : List Int × List Int) : AO := ⟨61, 0, 2, 1, fun _ k => .pv (bif Nat.beq k 0 then sb p.1 else sw p.2)⟩
theorem f38 (b w : List Int) (h1 : b.length < 2 ^ 62) (h2 : w.length < 2 ^ 62) : PureCall Try.prog 38 [stP (b, w)] (bb (okS (b, w))) := by
  refine PureCall.run tab_ok mixed (by kernel_rfl) Try.func38 rfl rfl rfl ?_
  conv => whnf
  repeat (refine ⟨⟨rfl, rfl, nle rfl, nle rfl⟩, ?_⟩; conv => whnf)
  refine ⟨fun hc => ?_, fun hc => ?_⟩
  · have hc : decide (16 < (b.length : Int)) = false := hc
    have hc := of_decide_eq_false hc
    conv => whnf
    repeat (first
      | (refine ⟨fun _ => ?_, fun h => Bool.noConfusion h⟩; conv => whnf)
      | (refine ⟨⟨rfl, rfl, nle rfl, nle rfl⟩, ?_⟩; conv => whnf))
    refine ⟨fun hd => ?_, fun hd => ?_⟩
    · have hd : (19 : Int) < (w.length : Int) := of_decide_eq_true hd
      conv => whnf
      refine done_bool _ _ rfl rfl (Eq.symm ?_)
      simp only [okS, show ¬ w.length < 20 by omega, decide_false, Bool.and_false, Bool.false_and]
    have hd : ¬ (19 : Int) < (w.length : Int) := of_decide_eq_false hd
    conv => whnf
    refine ex_loop tab_ok mixed (fun i => i ≤ b.length ∧ ∀ j, j < i → decide (b.getD j 0 ≤ 2) = true) (fun i : Nat => mkSt 41 [(1, .ptr 1 0 2 0 0), (3, i64 i)] [(1, boxS (b, w))]) (fun i => b.length - i) 0 ⟨by omega, fun j hj => by omega⟩ (SubS.mk [] rfl ?_ ?_) fun i hi => ?_
    · exact ⟨⟨_, rfl, .ptr _ _ _ _ _ _ _ _ _ rfl rfl rfl rfl⟩, ⟨_, rfl, .same⟩, trivial⟩
    · exact ⟨.inl ⟨_, _, rfl, rfl, rfl, rfl, rfl, rfl, Nat.le_refl _, fun i j hi hj => .same⟩, trivial⟩
    obtain ⟨hi, hq⟩ := hi
    conv => whnf
    repeat (refine ⟨⟨rfl, rfl, nle rfl, nle rfl⟩, ?_⟩; conv => whnf)
    refine ⟨fun hc => ?_, fun hc => ?_⟩
    · have hc : (i : Int) < b.length := of_decide_eq_true hc
      have hlt : i < b.length := by omega
      conv => whnf
      repeat (refine ⟨⟨rfl, rfl, nle rfl, nle rfl⟩, ?_⟩; conv => whnf)
      refine ⟨⟨by omega, hc, rfl⟩, ?_⟩
      conv => whnf
      refine ⟨⟨Nat.le_refl _⟩, ?_⟩
      conv => whnf
      refine ⟨fun he => ?_, fun he => ?_⟩
      · have he : (2 : Int) < b.getD i 0 := of_decide_eq_true he
        conv => whnf
        refine done_bool _ _ rfl rfl (Eq.symm ?_)
        rw [okS, not_all (l := (b, w).1) (i := i) hlt (decide_eq_false (by show ¬ b.getD i 0 ≤ 2; omega)), Bool.and_false, Bool.false_and]
      · have he : ¬ (2 : Int) < b.getD i 0 := of_decide_eq_false he
        conv => whnf
        refine ⟨⟨by unfold inI64; omega⟩, ?_⟩
        conv => whnf
        refine ⟨i + 1, ⟨by omega, fun j hj => ?_⟩, SubS.mk [] rfl ⟨⟨_, rfl, .ptr _ _ _ _ _ _ _ _ _ rfl rfl rfl rfl⟩, ⟨_, rfl, .same⟩, trivial⟩ ⟨.inl ⟨_, _, rfl, rfl, rfl, rfl, rfl, rfl, Nat.le_refl _, fun i j hi hj => .same⟩, trivial⟩, by omega⟩
        by_cases hji : j = i
        · subst hji; exact decide_eq_true (by omega)
        · exact hq j (by omega)
    have hc : ¬ (i : Int) < b.length := of_decide_eq_false hc
    have hall : b.all (fun y => decide (y ≤ 2)) = true := all_of fun j hj => hq j (by omega)
    conv => whnf
    refine ex_loop tab_ok mixed (fun i => i ≤ w.length ∧ ∀ j, j < i → decide (w.getD j 0 ≤ 32767) = true) (fun i : Nat => mkSt 41 [(1, .ptr 1 0 2 0 0), (4, i64 i)] [(1, boxS (b, w))]) (fun i => w.length - i) 0 ⟨by omega, fun j hj => by omega⟩ (SubS.mk [] rfl ?_ ?_) fun i hi => ?_
    · exact ⟨⟨_, rfl, .ptr _ _ _ _ _ _ _ _ _ rfl rfl rfl rfl⟩, ⟨_, rfl, .same⟩, trivial⟩
    · exact ⟨.inl ⟨_, _, rfl, rfl, rfl, rfl, rfl, rfl, Nat.le_refl _, fun i j hi hj => .same⟩, trivial⟩
    obtain ⟨hi, hq⟩ := hi
    conv => whnf
    repeat (refine ⟨⟨rfl, rfl, nle rfl, nle rfl⟩, ?_⟩; conv => whnf)
    refine ⟨fun hc => ?_, fun hc => ?_⟩
    · have hc : (i : Int) < w.length := of_decide_eq_true hc
      have hlt : i < w.length := by omega
      conv => whnf
      repeat (refine ⟨⟨rfl, rfl, nle rfl, nle rfl⟩, ?_⟩; conv => whnf)
      refine ⟨⟨by omega, hc, rfl⟩, ?_⟩
      conv => whnf
      refine ⟨⟨Nat.le_refl _⟩, ?_⟩
      conv => whnf
      refine ⟨fun he => ?_, fun he => ?_⟩
      · have he : (32767 : Int) < w.getD i 0 := of_decide_eq_true he
        conv => whnf
        refine done_bool _ _ rfl rfl (Eq.symm ?_)
        rw [okS, not_all (l := (b, w).2) (i := i) hlt (decide_eq_false (by show ¬ w.getD i 0 ≤ 32767; omega)), Bool.and_false]
      · have he : ¬ (32767 : Int) < w.getD i 0 := of_decide_eq_false he
        conv => whnf
        refine ⟨⟨by unfold inI64; omega⟩, ?_⟩
        conv => whnf
        refine ⟨i + 1, ⟨by omega, fun j hj => ?_⟩, SubS.mk [] rfl ⟨⟨_, rfl, .ptr _ _ _ _ _ _ _ _ _ rfl rfl rfl rfl⟩, ⟨_, rfl, .same⟩, trivial⟩ ⟨.inl ⟨_, _, rfl, rfl, rfl, rfl, rfl, rfl, Nat.le_refl _, fun i j hi hj => .same⟩, trivial⟩, by omega⟩
        by_cases hji : j = i
        · subst hji; exact decide_eq_true (by omega)
        · exact hq j (by omega)
    have hc : ¬ (i : Int) < w.length := of_decide_eq_false hc
    have hall2 : w.all (fun y => decide (y ≤ 32767)) = true := all_of fun j hj => hq j (by omega)
    conv => whnf
    refine done_bool _ _ rfl rfl (Eq.symm ?_)
    simp only [okS, hall, hall2, show b.length < 17 by omega, show w.length < 20 by omega, decide_true, Bool.and_self]
  · have hc : decide (16 < (b.length : Int)) = true := hc
    have hc := of_decide_eq_true hc
    conv => whnf
    repeat (refine ⟨fun h => Bool.noConfusion h, fun _ => ?_⟩; conv => whnf)
    refine ⟨fun _ => ?_, fun h => Bool.noConfusion h⟩
    conv => whnf
    refine done_bool _ _ rfl rfl (Eq.symm ?_)
    simp only [okS, show ¬ b.length < 17 by omega, decide_false, Bool.false_and]
def bytesS (l : List Int) : List UInt8 := (List.range l.length).map fun i => UInt8.ofNat (l.getD i 0).toNat
theorem bytesS_inj {a b : List Int} (ha : ∀ x ∈ a, 0 ≤ x ∧ x < 256) (hb : ∀ x ∈ b, 0 ≤ x ∧ x < 256) (h : bytesS a = bytesS b) : a = b := by
  have hl : a.length = b.length := by have := congrArg List.length h; simpa [bytesS] using this
  refine eq_of_getD hl fun i hi => ?_
  have := congrArg (fun l => l[i]?) h
  simp only [bytesS, List.getElem?_map, List.getElem?_range hi, List.getElem?_range (show i < b.length by omega), Option.map_some, Option.some.injEq] at this
  have h1 := getD_bd ha i
  have h2 := getD_bd hb i
  have := congrArg UInt8.toNat this
  simp only [UInt8.toNat_ofNat'] at this
  omega
theorem f29 (p q : List Int × List Int) (h1 : p.2.length < 2 ^ 62) (h2 : q.2.length < 2 ^ 62) (hp : ∀ x ∈ p.1, 0 ≤ x ∧ x < 256) (hq : ∀ x ∈ q.1, 0 ≤ x ∧ x < 256) : PureCall Try.prog 29 [stP p, stP q] (bb (decide (p = q))) := by
  obtain ⟨b, w⟩ := p
  obtain ⟨c, v⟩ := q
  refine PureCall.run tab_ok mixed (by kernel_rfl) Try.func29 rfl rfl rfl ?_
  conv => whnf
  repeat (refine ⟨⟨rfl, rfl, nle rfl, nle rfl⟩, ?_⟩; conv => whnf)
  refine ⟨⟨rfl, fun _ _ => rfl⟩, ?_⟩
  conv => whnf
  repeat (refine ⟨⟨rfl, rfl, nle rfl, nle rfl⟩, ?_⟩; conv => whnf)
  refine ⟨⟨rfl, fun _ _ => rfl⟩, ?_⟩
  conv => whnf
  refine ⟨fun he => ?_, fun he => ?_⟩
  · have he : (bytesS b == bytesS c) = true := he
    have he : b = c := bytesS_inj hp hq (by simpa using he)
    subst he
    conv => whnf
    repeat (first
      | (refine ⟨fun _ => ?_, fun h => Bool.noConfusion h⟩; conv => whnf)
      | (refine ⟨⟨rfl, rfl, nle rfl, nle rfl⟩, ?_⟩; conv => whnf))
    refine CallK.flat [] (f16 w v h1 h2) ⟨.same, .same, trivial⟩ rfl ?_
    conv => whnf
    refine done_bool _ _ rfl rfl ?_
    simp
  · have he : (bytesS b == bytesS c) = false := he
    have he : b ≠ c := fun e => by subst e; simp at he
    conv => whnf
    repeat (refine ⟨fun h => Bool.noConfusion h, fun _ => ?_⟩; conv => whnf)
    refine done_bool _ _ rfl rfl ?_
    simp [he]
end Go.Proofs.Ytncmpjpmcliomaa

namespace Go.Proofs.Ytncmpjpmcliomaa
open Go Go.AM
attribute [local irreducible] AWP CallK PureCall SubS HeapCall
def normS (p : List Int × List Int) : List Int × List Int := bif okS p then p else ([], [])
def stepP (p : (List Int × List Int) × Lst × Bool) : AV := tupV [stP p.1, listV p.2.1.1 p.2.1.2, bb p.2.2]
theorem stepP_end {H : Heap} {B : List Nat} {a0 a1 a2 : AV} {p : (List Int × List Int) × Lst × Bool} (h0 : VLe H B [] a0 (stP p.1)) (h1 : VLe H B [] a1 (listV p.2.1.1 p.2.1.2)) (h2 : VLe H B [] a2 (bb p.2.2)) : ∃ B, VLe H B [] (pack [a0, a1, a2]) (stepP p) :=
  done_tup _ B rfl ⟨h0, h1, h2, trivial⟩
theorem _root_.Go.AM.IsL.catSub {F f g : Nat → Nat → AV} {k : IntKind} {L M : List Int} {o o' n : Nat} (hF : F = catF f (fun i j => g (o' + i) j) 0) (ho : o' = o) (hg : IsL g k L) (hM : M = (L.drop o).take n) (hn : o + n ≤ L.length) : IsL F k M := by
  subst hF; subst ho; subst hM
  exact IsL.cat' [] _ rfl rfl rfl IsL.nil (IsL.sub hg hn)
set_option maxHeartbeats 2000000 in
theorem f28 (b w : List Int) (x : Int) (hx : 0 ≤ x ∧ x < 256) (hb : ∀ y ∈ b, 0 ≤ y ∧ y < 256) (hw : ∀ y ∈ w, W y) (hbl : b.length < 2 ^ 60) (hwl : w.length < 2 ^ 60) :
    PureCall Try.prog 28 [stP (b, w), u8 x] (stepP (pushS (normS (b, w)).1 (normS (b, w)).2 x)) := by
  obtain ⟨c, hc⟩ : ∃ c, c = cut2 x := ⟨_, rfl⟩
  have hcr : 0 ≤ c ∧ c < 256 := by subst hc; unfold cut2; split <;> omega
  refine PureCall.run tab_ok mixed (by kernel_rfl) Try.func28 rfl rfl rfl ?_
  conv => whnf
  repeat (refine ⟨⟨rfl, rfl, nle rfl, nle rfl⟩, ?_⟩; conv => whnf)
  refine CallK.flat [] (f38 b w (by omega) (by omega)) ⟨.agg _ _ _ fun i hi => ?_, trivial⟩ rfl ?_
  · match i with
    | 0 => exact .same
    | 1 => exact .same
  conv => whnf
  refine ⟨fun hv => ?_, fun hv => ?_⟩
  · have hv : okS (b, w) = true := hv
    have hns : normS (b, w) = (b, w) := by unfold normS; rw [hv]; rfl
    rw [hns]
    have hbl : b.length < 17 := by simp only [okS, Bool.and_eq_true, decide_eq_true_eq] at hv; exact hv.1.1.1
    have hwl : w.length < 20 := by simp only [okS, Bool.and_eq_true, decide_eq_true_eq] at hv; exact hv.1.1.2
    conv => whnf
    repeat (refine ⟨⟨rfl, rfl, nle rfl, nle rfl⟩, ?_⟩; conv => whnf)
    refine ⟨⟨rfl, show b.length * 1 ≤ 140737488355328 by omega⟩, ?_⟩
    conv => whnf
    repeat (refine ⟨⟨rfl, rfl, nle rfl, nle rfl⟩, ?_⟩; conv => whnf)
    refine ⟨⟨rfl, show w.length * 2 ≤ 140737488355328 by omega⟩, ?_⟩
    conv => whnf
    repeat (refine ⟨⟨rfl, rfl, nle rfl, nle rfl⟩, ?_⟩; conv => whnf)
    refine ⟨⟨⟨rfl, rfl, rfl, nle rfl⟩, rfl, rfl, rfl, rfl, rfl, rfl, show (b.length + 1) * 1 ≤ 140737488355328 by omega⟩, ?_⟩
    conv => whnf
    repeat (refine ⟨⟨rfl, rfl, nle rfl, nle rfl⟩, ?_⟩; conv => whnf)
    have hbx : (b ++ [c]).length = b.length + 1 := by simp
    refine ⟨fun hc17 => ?_, fun hc17 => ?_⟩
    · have hc17 : ((b.length + 1 : Nat) : Int) < 17 := of_decide_eq_true hc17
      have hps : pushS b w x = ((b ++ [c], w), (0, []), false) := by unfold pushS; rw [← hc, if_pos (by omega)]
      conv => whnf
      repeat (refine ⟨⟨rfl, rfl, nle rfl, nle rfl⟩, ?_⟩; conv => whnf)
      refine stepP_end (B := [18, 24]) ?_ ?_ ?_
      all_goals rw [hps]
      · refine .agg 2 _ _ fun i hi => ?_
        match i with
        | 0 =>
          refine .frz0 _ rfl rfl rfl rfl rfl (Nat.le_refl _) hbx.symm ?_
          try dsimp only
          rw [hc]
          exact IsL.cat' b [cut2 x] rfl rfl rfl IsL.seq (IsL.one rfl)
        | 1 => exact .frz0 _ rfl rfl rfl rfl rfl (Nat.le_refl _) rfl IsL.seq
      · refine .agg 2 _ _ fun i hi => ?_
        match i with
        | 0 => exact .same
        | 1 => exact .nilL
      · exact .same
    have hc17 : ¬ ((b.length + 1 : Nat) : Int) < 17 := of_decide_eq_false hc17
    conv => whnf
    repeat (refine ⟨⟨rfl, rfl, nle rfl, nle rfl⟩, ?_⟩; conv => whnf)
    obtain ⟨L, hL⟩ : ∃ L, L = b ++ [c] := ⟨_, rfl⟩
    have hLw : ∀ y ∈ L, 0 ≤ y ∧ y < 256 := fun y hy => by
      rw [hL] at hy
      rcases List.mem_append.mp hy with hy | hy
      · exact hb y hy
      · rw [List.mem_singleton.mp hy]; exact hcr
    have hps : pushS b w x = stepW (nextW (wordS L) w) := by unfold pushS; rw [← hc, ← hL, if_neg (by rw [hL]; omega)]
    refine CallK.flat [18] (f19 L (by rw [hL]; omega) hLw) ⟨.frz0 _ rfl rfl rfl rfl rfl (Nat.le_refl _) (by rw [hL]; exact hbx.symm) ?_, trivial⟩ rfl ?_
    · try dsimp only
      rw [hL, hc]
      exact IsL.cat' b [cut2 x] rfl rfl rfl IsL.seq (IsL.one rfl)
    have hv := wordS_W L hLw
    obtain ⟨⟨v, first, ok⟩, hp⟩ : ∃ p, p = wordS L := ⟨_, rfl⟩
    rw [← hp] at hps hv ⊢
    conv => whnf
    repeat (refine ⟨⟨rfl, rfl, nle rfl, nle rfl⟩, ?_⟩; conv => whnf)
    refine ⟨fun hok => ?_, fun hok => ?_⟩
    · have hok : ok = false := by simpa using hok
      have hps : pushS b w x = (([], []), (0, []), false) := by rw [hps, hok]; rfl
      conv => whnf
      repeat (refine ⟨⟨rfl, rfl, nle rfl, nle rfl⟩, ?_⟩; conv => whnf)
      refine ⟨fun _ => ?_, fun h => absurd (of_decide_eq_false h) (by decide)⟩
      conv => whnf
      repeat (refine ⟨⟨rfl, rfl, nle rfl, nle rfl⟩, ?_⟩; conv => whnf)
      refine stepP_end (B := []) ?_ ?_ ?_
      all_goals rw [hps]
      · refine .agg 2 _ _ fun i hi => ?_
        match i with
        | 0 => exact .nilL
        | 1 => exact .nilL
      · refine .agg 2 _ _ fun i hi => ?_
        match i with
        | 0 => exact .same
        | 1 => exact .nilL
      · exact .same
    have hok : ok = true := by simpa using hok
    subst hok
    conv => whnf
    refine ⟨fun hf => ?_, fun hf => ?_⟩
    · have hf : first = true := hf
      subst hf
      have hps : pushS b w x = (([], [v]), (0, []), false) := hps
      conv => whnf
      repeat (refine ⟨⟨rfl, rfl, nle rfl, nle rfl⟩, ?_⟩; conv => whnf)
      refine ⟨fun _ => ?_, fun h => absurd (of_decide_eq_false h) (by decide)⟩
      conv => whnf
      repeat (refine ⟨⟨rfl, rfl, nle rfl, nle rfl⟩, ?_⟩; conv => whnf)
      refine stepP_end (B := [52]) ?_ ?_ ?_
      all_goals rw [hps]
      · refine .agg 2 _ _ fun i hi => ?_
        match i with
        | 0 => exact .nilL
        | 1 => exact .frz0 _ rfl rfl rfl rfl rfl (Nat.le_refl _) rfl (IsL.one rfl)
      · refine .agg 2 _ _ fun i hi => ?_
        match i with
        | 0 => exact .same
        | 1 => exact .nilL
      · exact .same
    have hf : first = false := hf
    subst hf
    conv => whnf
    repeat (refine ⟨⟨rfl, rfl, nle rfl, nle rfl⟩, ?_⟩; conv => whnf)
    refine ⟨fun h0 => ?_, fun h0 => ?_⟩
    · have h0 : (0 : Int) < w.length := of_decide_eq_true h0
      have hnx : nextW (v, false, true) w = w ++ [v] := by
        cases w with
        | nil => simp at h0
        | cons y w => rfl
      rw [hnx] at hps
      conv => whnf
      repeat (refine ⟨⟨rfl, rfl, nle rfl, nle rfl⟩, ?_⟩; conv => whnf)
      refine ⟨⟨⟨rfl, rfl, rfl, nle rfl⟩, rfl, rfl, rfl, rfl, rfl, rfl, show (w.length + 1) * 2 ≤ 140737488355328 by omega⟩, ?_⟩
      conv => whnf
      repeat (refine ⟨⟨rfl, rfl, nle rfl, nle rfl⟩, ?_⟩; conv => whnf)
      have hwv : (w ++ [v]).length = w.length + 1 := by simp
      refine ⟨fun h20 => ?_, fun h20 => ?_⟩
      · have h20 : ((w.length + 1 : Nat) : Int) < 20 := of_decide_eq_true h20
        have hps : pushS b w x = (([], w ++ [v]), (0, []), false) := by rw [hps]; unfold stepW; rw [if_pos (by omega)]
        conv => whnf
        repeat (refine ⟨⟨rfl, rfl, nle rfl, nle rfl⟩, ?_⟩; conv => whnf)
        refine stepP_end (B := [24]) ?_ ?_ ?_
        all_goals rw [hps]
        · refine .agg 2 _ _ fun i hi => ?_
          match i with
          | 0 => exact .nilL
          | 1 =>
            refine .frz0 _ rfl rfl rfl rfl rfl (Nat.le_refl _) hwv.symm ?_
            try dsimp only
            exact IsL.cat' w [v] rfl rfl rfl IsL.seq (IsL.one rfl)
        · refine .agg 2 _ _ fun i hi => ?_
          match i with
          | 0 => exact .same
          | 1 => exact .nilL
        · exact .same
      have h20 : ¬ ((w.length + 1 : Nat) : Int) < 20 := of_decide_eq_false h20
      have hl19 : w.length = 19 := by omega
      conv => whnf
      repeat (refine ⟨⟨rfl, rfl, nle rfl, nle rfl⟩, ?_⟩; conv => whnf)
      refine ⟨⟨by decide, show (19 : Int) ≤ ((w.length + 1 : Nat) : Int) by omega, rfl⟩, ?_⟩
      conv => whnf
      have hsw := stepW_20 (w := w) (v := v) hl19
      refine ⟨_, [24], ⟨_, f32 w (by omega) hw, ⟨.frz0 _ rfl rfl rfl rfl rfl (show _ ≤ w.length + 1 by omega) (by omega) ?_, trivial⟩, .inl rfl⟩, ?_⟩
      · try dsimp only
        exact IsL.pre (IsL.cat' w [v] rfl rfl rfl IsL.seq (IsL.one rfl))
      conv => whnf
      refine ⟨⟨by decide, show (19 : Int) < ((w.length + 1 : Nat) : Int) by omega, rfl⟩, ?_⟩
      conv => whnf
      refine ⟨⟨rfl, rfl, show _ < w.length + 1 by omega, nle rfl⟩, ?_⟩
      conv => whnf
      rw [opSem_neq (a := ck w) (b := v) rfl rfl ?_]
      · conv => whnf
        refine ⟨rfl, ?_⟩
        conv => whnf
        refine ⟨fun hn => ?_, fun hn => ?_⟩
        · have hn : (ck w != v) = true := hn
          have hps : pushS b w x = (([], []), (0, []), false) := by rw [hps, hsw, if_pos (by simpa using hn)]
          conv => whnf
          repeat (refine ⟨⟨rfl, rfl, nle rfl, nle rfl⟩, ?_⟩; conv => whnf)
          refine stepP_end (B := []) ?_ ?_ ?_
          all_goals rw [hps]
          · refine .agg 2 _ _ fun i hi => ?_
            match i with
            | 0 => exact .nilL
            | 1 => exact .nilL
          · refine .agg 2 _ _ fun i hi => ?_
            match i with
            | 0 => exact .same
            | 1 => exact .nilL
          · exact .same
        · have hn : (ck w != v) = false := hn
          have hps : pushS b w x = (([], []), (w.getD 0 0, w.drop 1), true) := by rw [hps, hsw, if_neg (by simpa using hn)]
          obtain ⟨y, w', rfl⟩ : ∃ y w', w = y :: w' := by
            cases w with
            | nil => simp at hl19
            | cons y w' => exact ⟨y, w', rfl⟩
          have hl18 : w'.length = 18 := by simpa using hl19
          conv => whnf
          repeat (refine ⟨⟨rfl, rfl, nle rfl, nle rfl⟩, ?_⟩; conv => whnf)
          refine ⟨⟨by omega, by omega, rfl⟩, ?_⟩
          conv => whnf
          repeat (refine ⟨⟨rfl, rfl, nle rfl, nle rfl⟩, ?_⟩; conv => whnf)
          refine ⟨⟨by decide, by decide, show (19 : Int) ≤ ((w'.length + 1 + 1 : Nat) : Int) by omega, rfl⟩, ?_⟩
          conv => whnf
          refine ⟨⟨⟨rfl, rfl, rfl, by show 0 + Int.toNat 1 + Int.toNat (19 - 1) ≤ w'.length + 1 + 1; omega⟩, rfl, rfl, rfl, rfl, rfl, rfl, nle rfl⟩, ?_⟩
          conv => whnf
          repeat (refine ⟨⟨rfl, rfl, nle rfl, nle rfl⟩, ?_⟩; conv => whnf)
          refine ⟨rfl, ?_⟩
          conv => whnf
          repeat (refine ⟨⟨rfl, rfl, nle rfl, nle rfl⟩, ?_⟩; conv => whnf)
          refine stepP_end (B := [85]) ?_ ?_ ?_
          all_goals rw [hps]
          · refine .agg 2 _ _ fun i hi => ?_
            match i with
            | 0 => exact .nilL
            | 1 => exact .nilL
          · refine .agg 2 _ _ fun i hi => ?_
            match i with
            | 0 => exact .same
            | 1 =>
              refine .frz0 _ rfl rfl rfl rfl rfl (Nat.le_refl _) (show _ = w'.length by rw [hl18]; rfl) ?_
              try dsimp only
              refine IsL.catSub (L := (y :: w') ++ [v]) (o := 1) (n := 18) rfl rfl ?_ (by show w' = (w' ++ [v]).take 18; rw [← hl18, List.take_left]) (by simp; omega)
              try dsimp only
              exact IsL.cat' (y :: w') [v] rfl rfl rfl IsL.seq (IsL.one rfl)
          · exact .same
      · have hi : 0 + Int.toNat 19 = w.length := by rw [hl19]; rfl
        simp only [valueOf, TK.agg, cond_false, catF]
        rw [hi]
        rw [show Nat.ble (w.length + 1) w.length = false from by rw [← Bool.not_eq_true, Nat.ble_eq]; omega, Nat.sub_self]
        rfl
    · have h0 : ¬ (0 : Int) < w.length := of_decide_eq_false h0
      have hw0 : w = [] := by
        cases w with
        | nil => rfl
        | cons y w => simp at h0
      have hps : pushS b w x = (([], w), (0, []), false) := by rw [hps, hw0]; rfl
      conv => whnf
      repeat (refine ⟨⟨rfl, rfl, nle rfl, nle rfl⟩, ?_⟩; conv => whnf)
      refine ⟨fun _ => ?_, fun h => absurd (of_decide_eq_false h) (by show ¬ ¬ (w.length : Int) < 20; omega)⟩
      conv => whnf
      repeat (refine ⟨⟨rfl, rfl, nle rfl, nle rfl⟩, ?_⟩; conv => whnf)
      refine stepP_end (B := [24]) ?_ ?_ ?_
      all_goals rw [hps]
      · refine .agg 2 _ _ fun i hi => ?_
        match i with
        | 0 => exact .nilL
        | 1 => exact .frz0 _ rfl rfl rfl rfl rfl (Nat.le_refl _) rfl IsL.seq
      · refine .agg 2 _ _ fun i hi => ?_
        match i with
        | 0 => exact .same
        | 1 => exact .nilL
      · exact .same
  · have hv : okS (b, w) = false := hv
    have hns : normS (b, w) = ([], []) := by unfold normS; rw [hv]; rfl
    rw [hns]
    have hps : pushS [] [] x = (([c], []), (0, []), false) := by rw [hc]; rfl
    conv => whnf
    repeat (refine ⟨⟨rfl, rfl, nle rfl, nle rfl⟩, ?_⟩; conv => whnf)
    refine ⟨⟨⟨rfl, rfl, rfl, nle rfl⟩, nle rfl⟩, ?_⟩
    conv => whnf
    repeat (refine ⟨⟨rfl, rfl, nle rfl, nle rfl⟩, ?_⟩; conv => whnf)
    refine ⟨fun _ => ?_, fun h => absurd (of_decide_eq_false h) (by decide)⟩
    conv => whnf
    repeat (refine ⟨⟨rfl, rfl, nle rfl, nle rfl⟩, ?_⟩; conv => whnf)
    refine stepP_end (B := [31]) ?_ ?_ ?_
    all_goals rw [hps]
    · refine .agg 2 _ _ fun i hi => ?_
      match i with
      | 0 => exact .frz0 _ rfl rfl rfl rfl rfl (Nat.le_refl _) rfl (IsL.one (by rw [hc]; rfl))
      | 1 => exact .nilL
    · refine .agg 2 _ _ fun i hi => ?_
      match i with
      | 0 => exact .same
      | 1 => exact .nilL
    · exact .same
end Go.Proofs.Ytncmpjpmcliomaa

namespace Go.Proofs.Ytncmpjpmcliomaa
open Go Go.AM
attribute [local irreducible] AWP CallK PureCall SubS HeapCall
theorem wordS_lt (l : List Int) (hl : ∀ x ∈ l, 0 ≤ x ∧ x < 256) : (wordS l).1 ≤ 32767 := by
  unfold wordS
  cases hg : goodB l with
  | false => exact (show (0 : Int) ≤ 32767 by decide)
  | true =>
    simp only [goodB, Bool.and_eq_true, List.all_eq_true, decide_eq_true_eq, beq_iff_eq] at hg
    have := wval_lt ((l.take 16).drop 1) (fun x hx => by
      have hx := List.mem_of_mem_take (List.mem_of_mem_drop hx)
      exact ⟨(hl x hx).1, hg.1.2 x hx⟩)
    have h15 : ((l.take 16).drop 1).length = 15 := by simp; omega
    rw [h15] at this
    show wval _ ≤ 32767; omega
theorem okS_iff {b w : List Int} : okS (b, w) = true ↔ b.length < 17 ∧ w.length < 20 ∧ (∀ y ∈ b, y ≤ 2) ∧ ∀ y ∈ w, y ≤ 32767 := by
  simp only [okS, Bool.and_eq_true, decide_eq_true_eq, List.all_eq_true, and_assoc]
theorem okS_step {n : List Int} (_hn : n.length ≤ 20) (hw : ∀ y ∈ n, y ≤ 32767) : okS (stepW n).1 = true := by
  unfold stepW
  split
  · rename_i h
    exact okS_iff.mpr ⟨Nat.zero_lt_succ _, h, fun y hy => (by cases hy), hw⟩
  · split <;> rfl
theorem okS_push {b w : List Int} {x : Int} (h : okS (b, w) = true) (hb : ∀ y ∈ b, 0 ≤ y) (hx : 0 ≤ x ∧ x < 256) : okS (pushS b w x).1 = true := by
  obtain ⟨h1, h2, h3, h4⟩ := okS_iff.mp h
  have hc : 0 ≤ cut2 x ∧ cut2 x ≤ 2 := by unfold cut2; split <;> omega
  have hL : ∀ y ∈ b ++ [cut2 x], 0 ≤ y ∧ y ≤ 2 := fun y hy => by
    rcases List.mem_append.mp hy with hy | hy
    · exact ⟨hb y hy, h3 y hy⟩
    · rw [List.mem_singleton.mp hy]; exact hc
  unfold pushS
  split
  · rename_i h
    exact okS_iff.mpr ⟨h, h2, fun y hy => (hL y hy).2, h4⟩
  have hw := wordS_lt (b ++ [cut2 x]) (fun y hy => ⟨(hL y hy).1, by have := (hL y hy).2; omega⟩)
  obtain ⟨⟨v, f, ok⟩, hp⟩ : ∃ p, p = wordS (b ++ [cut2 x]) := ⟨_, rfl⟩
  rw [← hp] at hw ⊢
  have hv : v ≤ 32767 := hw
  cases ok with
  | false => rfl
  | true =>
    cases f with
    | true => exact okS_step (n := [v]) (show 1 ≤ 20 by decide) fun y hy => by rw [List.mem_singleton.mp hy]; exact hv
    | false =>
      cases w with
      | nil => rfl
      | cons z w =>
        refine okS_step (n := (z :: w) ++ [v]) (by rw [List.length_append]; simp only [List.length_cons, List.length_nil] at h2 ⊢; omega) fun y hy => ?_
        rcases List.mem_append.mp hy with hy | hy
        · exact h4 y hy
        · rw [List.mem_singleton.mp hy]; exact hv
theorem dec_okS {l : List Int} (hw : ∀ x ∈ l, 0 ≤ x ∧ x < 256) : ∀ i, okS (decN l i).1 = true := by
  intro i
  induction i with
  | zero => rfl
  | succ i ih => exact okS_push ih (fun y hy => ((dec_ok hw i).1.2.2.1 y hy).1) (getD_bd hw i)
theorem f22 (l : List Int) (hl : l.length < 2 ^ 40) (hw : ∀ x ∈ l, 0 ≤ x ∧ x < 256) : PureCall Try.prog 22 [.pv (sb l)] (.pv (lsP (decS l))) := by
  refine PureCall.run tab_ok mixed (by kernel_rfl) Try.func22 rfl rfl rfl ?_
  conv => whnf
  refine ex_loop tab_ok mixed (fun x : Nat × Nat => x.1 ≤ l.length) (fun x : Nat × Nat => mkSt 32 [(0, .pv (sb l)), (5, i64 x.1), (4, .row 1003 x.2 2 0 (decN l x.1).2.length), (3, .ptr 3 0 2 0 0)]
      [(3, boxS (decN l x.1).1), (1003, outR x.2 (decN l x.1).2)]) (fun x => l.length - x.1) (0, 0) (Nat.zero_le _) (SubS.mkN [] [(3, 3)] rfl rfl rfl ?_ ?_) fun x hx => ?_
  · exact ⟨⟨_, rfl, .same⟩, ⟨_, rfl, .same⟩, ⟨_, rfl, .void _ _ _⟩, ⟨_, rfl, .ptr _ _ _ _ _ _ _ _ _ rfl rfl rfl rfl⟩, trivial⟩
  · refine ⟨.inl ⟨_, _, rfl, rfl, rfl, rfl, rfl, rfl, Nat.le_refl _, fun i j hi hj => ?_⟩, .inr ⟨rfl, rfl⟩, trivial⟩
    match i, j with
    | 0, 0 => exact .nilL
    | 0, 1 => exact .nilL
  obtain ⟨i, g3⟩ := x
  have hi : i ≤ l.length := hx
  obtain ⟨hst, hol, hod⟩ := dec_ok hw i
  have hok := dec_okS hw i
  have hdN : decN l (i + 1) = ((pushS (decN l i).1.1 (decN l i).1.2 (l.getD i 0)).1, bif (pushS (decN l i).1.1 (decN l i).1.2 (l.getD i 0)).2.2 then (decN l i).2 ++ [(pushS (decN l i).1.1 (decN l i).1.2 (l.getD i 0)).2.1] else (decN l i).2) := rfl
  have hfin : i = l.length → decS l = (decN l i).2 := fun h => by unfold decS; rw [h]
  generalize decN l i = D at *
  obtain ⟨⟨b, w⟩, out⟩ := D
  conv => whnf
  refine ⟨fun hc => ?_, fun hc => ?_⟩
  · have hc : (i : Int) < l.length := of_decide_eq_true hc
    conv => whnf
    repeat (refine ⟨⟨rfl, rfl, nle rfl, nle rfl⟩, ?_⟩; conv => whnf)
    refine ⟨⟨by omega, by omega, rfl⟩, ?_⟩
    conv => whnf
    refine ⟨⟨Nat.le_refl _⟩, ?_⟩
    conv => whnf
    have hx := getD_bd hw i
    generalize hxx : l.getD i 0 = x at *
    have hns : normS (b, w) = (b, w) := by unfold normS; rw [show okS (b, w) = true from hok]; rfl
    have hcall := f28 b w x hx hst.2.2.1 hst.2.2.2 (Nat.lt_of_lt_of_le hst.1 (by decide)) (Nat.lt_of_lt_of_le hst.2.1 (by decide))
    rw [hns] at hcall
    dsimp only at hdN hcall
    generalize pushS b w x = p at hdN hcall
    obtain ⟨⟨b', w'⟩, e, ok⟩ := p
    refine ⟨_, [], ⟨_, hcall, ⟨.agg _ _ _ fun k hk => ?_, .int hxx, trivial⟩, .inr rfl⟩, ?_⟩
    · match k with
      | 0 => exact .same
      | 1 => exact .same
    conv => whnf
    repeat (refine ⟨⟨rfl, rfl, nle rfl, nle rfl⟩, ?_⟩; conv => whnf)
    refine ⟨rfl, ?_⟩
    conv => whnf
    refine ⟨fun hok => ?_, fun hok => ?_⟩
    · have hok : ok = true := hok
      subst hok
      have hdN : decN l (i + 1) = ((b', w'), out ++ [e]) := hdN
      conv => whnf
      repeat (refine ⟨⟨rfl, rfl, nle rfl, nle rfl⟩, ?_⟩; conv => whnf)
      refine ⟨⟨⟨rfl, rfl, rfl, nle rfl⟩, rfl, rfl, rfl, rfl, rfl, rfl, show (out.length + 1) * 32 ≤ 140737488355328 by have : out.length ≤ i := hol; omega⟩, ?_⟩
      conv => whnf
      repeat (refine ⟨⟨rfl, rfl, nle rfl, nle rfl⟩, ?_⟩; conv => whnf)
      refine ⟨⟨by unfold inI64; omega⟩, ?_⟩
      conv => whnf
      refine ⟨(i + 1, g3 + 1), by show i + 1 ≤ l.length; omega, SubS.mkN [] [(3, 3), (1003, 1003)] rfl rfl rfl ?_ ?_, by show l.length - (i + 1) < l.length - i; omega⟩
      · refine ⟨⟨_, rfl, .same⟩, ⟨_, rfl, .same⟩, ⟨_, rfl, ?_⟩, ⟨_, rfl, .ptr _ _ _ _ _ _ _ _ _ rfl rfl rfl rfl⟩, trivial⟩
        show VLe _ _ _ _ (.row 1003 _ 2 0 (decN l (i + 1)).2.length)
        rw [hdN]
        exact .row _ _ _ _ _ _ _ _ _ rfl rfl rfl (by simp)
      show AllH _ _ _ [(3, boxS (decN l (i + 1)).1), (1003, outR _ (decN l (i + 1)).2)]
      rw [hdN]
      refine ⟨.inl ⟨_, _, rfl, rfl, rfl, rfl, rfl, rfl, Nat.le_refl _, fun i j hi hj => ?_⟩, .inl ⟨_, _, rfl, rfl, rfl, rfl, rfl, rfl, (by simp [outR]), fun i j hi hj => ?_⟩, trivial⟩
      · match i, j with
        | 0, 0 => exact .same
        | 0, 1 => exact .same
      · have hi : i < out.length + 1 := by simpa [outR] using hi
        dsimp only
        refine VLe.snoc hi (fun h => ?_) fun h => ?_
        · show VLe _ _ _ _ (.pv (cellP ((out ++ [e]).getD i (0, [])) j))
          rw [show (out ++ [e]).getD i (0, []) = out.getD i (0, []) by rw [List.getD_eq_getElem?_getD, List.getD_eq_getElem?_getD, List.getElem?_append_left h]]
          exact .same
        · show VLe _ _ _ _ (.pv (cellP ((out ++ [e]).getD i (0, [])) j))
          rw [show (out ++ [e]).getD i (0, []) = e by subst h; simp [List.getD_eq_getElem?_getD]]
          match j with
          | 0 => exact .same
          | 1 => exact .same
    · have hok : ok = false := hok
      subst hok
      have hdN : decN l (i + 1) = ((b', w'), out) := hdN
      conv => whnf
      repeat (refine ⟨⟨rfl, rfl, nle rfl, nle rfl⟩, ?_⟩; conv => whnf)
      refine ⟨⟨by unfold inI64; omega⟩, ?_⟩
      conv => whnf
      refine ⟨(i + 1, g3), by show i + 1 ≤ l.length; omega, SubS.mkN [] [(3, 3), (1003, 1003)] rfl rfl rfl ?_ ?_, by show l.length - (i + 1) < l.length - i; omega⟩
      · refine ⟨⟨_, rfl, .same⟩, ⟨_, rfl, .same⟩, ⟨_, rfl, ?_⟩, ⟨_, rfl, .ptr _ _ _ _ _ _ _ _ _ rfl rfl rfl rfl⟩, trivial⟩
        show VLe _ _ _ _ (.row 1003 _ 2 0 (decN l (i + 1)).2.length)
        rw [hdN]
        exact .row _ _ _ _ _ _ _ _ _ rfl rfl rfl rfl
      show AllH _ _ _ [(3, boxS (decN l (i + 1)).1), (1003, outR _ (decN l (i + 1)).2)]
      rw [hdN]
      refine ⟨.inl ⟨_, _, rfl, rfl, rfl, rfl, rfl, rfl, Nat.le_refl _, fun i j hi hj => ?_⟩, .inl ⟨_, _, rfl, rfl, rfl, rfl, rfl, rfl, Nat.le_refl _, fun i j hi hj => ?_⟩, trivial⟩
      · match i, j with
        | 0, 0 => exact .same
        | 0, 1 => exact .same
      · exact .same
  · have hc : ¬ (i : Int) < l.length := of_decide_eq_false hc
    have hfin := hfin (by omega)
    conv => whnf
    repeat (refine ⟨⟨rfl, rfl, nle rfl, nle rfl⟩, ?_⟩; conv => whnf)
    rw [hfin]
    refine ⟨[1003], .frz _ _ _ _ _ _ _ _ rfl rfl rfl rfl (by simp [outR]) fun i j hi hj => ?_⟩
    rw [Nat.zero_add]
    exact .same
theorem decS_bd {l : List Int} (hw : ∀ x ∈ l, 0 ≤ x ∧ x < 256) : (decS l).length ≤ l.length ∧ ∀ x ∈ decS l, x.2.length < 2 ^ 62 := by
  obtain ⟨_, h1, h2⟩ := dec_ok hw l.length
  exact ⟨h1, fun x hx => Nat.lt_of_le_of_lt (h2 x hx) (by decide)⟩
theorem f5 (l : List Int) (hl : l.length < 2 ^ 62) (hw : ∀ x ∈ l, 0 ≤ x ∧ x < 256) : PureCall Try.prog 5 [.pv (sb l)] (bb true) := by
  refine PureCall.run tab_ok mixed (by kernel_rfl) Try.func5 rfl rfl rfl ?_
  conv => whnf
  refine ⟨fun hc => ?_, fun hc => ?_⟩
  · conv => whnf
    refine CallK.flat [] awake trivial rfl ?_
    conv => whnf
    exact done_bool _ _ rfl rfl rfl
  · have hc : ¬ (3000 : Int) < l.length := of_decide_eq_false hc
    obtain ⟨h1, h2⟩ := decS_bd hw
    conv => whnf
    refine CallK.drop [] (f21 l (by omega) hw) ⟨.same, trivial⟩ ?_
    conv => whnf
    refine CallK.drop [] (f22 l (by omega) hw) ⟨.same, trivial⟩ ?_
    conv => whnf
    refine CallK.flat [] (f20 (decS l) (decS l) (by omega) (by omega) h2 h2) ⟨.same, .same, trivial⟩ rfl ?_
    rw [decide_eq_true (rfl : decS l = decS l)]
    conv => whnf
    repeat (refine ⟨fun _ => ?_, fun h => Bool.noConfusion h⟩; conv => whnf)
    refine CallK.flat [] awake trivial rfl ?_
    conv => whnf
    exact done_bool _ _ rfl rfl rfl
end Go.Proofs.Ytncmpjpmcliomaa

namespace Go.Proofs.Ytncmpjpmcliomaa
open Go Go.AM
attribute [local irreducible] AWP CallK PureCall SubS HeapCall
def idxG (c : Int) : List Int → Int → Int
  | [], _ => -1
  | y :: l, k => if c < y then k else idxG c l (k + 1)
theorem idxG_at {c : Int} : ∀ (l : List Int) (k : Int) (i : Nat), i < l.length → (∀ j, j < i → ¬ c < l.getD j 0) → c < l.getD i 0 → idxG c l k = k + i
  | [], _, i, h, _, _ => absurd h (Nat.not_lt_zero i)
  | y :: l, k, 0, _, _, h => by have h : c < y := h; simp only [idxG, if_pos h]; omega
  | y :: l, k, i + 1, h, hb, ha => by
    have h0 : ¬ c < y := hb 0 (by omega)
    simp only [idxG, if_neg h0]
    rw [idxG_at l (k + 1) i (by simpa using h) (fun j hj => hb (j + 1) (by omega)) ha]
    omega
theorem idxG_no {c : Int} : ∀ (l : List Int) (k : Int), (∀ j, j < l.length → ¬ c < l.getD j 0) → idxG c l k = -1
  | [], _, _ => rfl
  | y :: l, k, hb => by
    have h0 : ¬ c < y := hb 0 (by simp)
    simp only [idxG, if_neg h0]
    exact idxG_no l (k + 1) fun j hj => hb (j + 1) (by simpa using hj)
theorem idxG_all {c : Int} : ∀ (l : List Int) (k : Int), 0 ≤ k → (!decide (0 ≤ idxG c l k)) = l.all (fun y => decide (y ≤ c))
  | [], _, _ => rfl
  | y :: l, k, hk => by
    simp only [List.all_cons]
    by_cases h : c < y
    · have e : idxG c (y :: l) k = k := if_pos h
      rw [e, decide_eq_true hk, decide_eq_false (by omega)]; rfl
    · have e : idxG c (y :: l) k = idxG c l (k + 1) := if_neg h
      rw [e, idxG_all l (k + 1) (by omega), decide_eq_true (by omega)]; rfl
def fnV (f : FuncId) : AV := .func (.func f) 0 (fun _ => .nilS) 0 (fun _ => .nilS)
theorem fnV_le {H : Heap} {B : List Nat} {U : List (Nat × Nat)} {f : FuncId} : VLe H B U (fnV f) (fnV f) := .func _ _ _ _ _ _ _ (fun i hi => absurd hi (Nat.not_lt_zero i)) (fun i hi => absurd hi (Nat.not_lt_zero i))
theorem f44 (x : Int) : PureCall Try.prog 44 [u8 x] (bb (decide (2 < x))) := by
  refine PureCall.run tab_ok mixed (by kernel_rfl) Try.func44 rfl rfl rfl ?_
  conv => whnf
  exact done_bool _ _ rfl rfl rfl
theorem f46 (x : Int) : PureCall Try.prog 46 [i16 x] (bb (decide (32767 < x))) := by
  refine PureCall.run tab_ok mixed (by kernel_rfl) Try.func46 rfl rfl rfl ?_
  conv => whnf
  exact done_bool _ _ rfl rfl rfl
theorem f49 (l : List Int) (hl : l.length < 2 ^ 62) : PureCall Try.prog 49 [.pv (sb l), fnV 44] (i64 (idxG 2 l 0)) := by
  refine PureCall.run tab_ok mixed (by kernel_rfl) Try.func49 rfl rfl rfl ?_
  conv => whnf
  refine ex_loop tab_ok mixed (fun i => i ≤ l.length ∧ ∀ j, j < i → ¬ 2 < l.getD j 0) (fun i : Nat => mkSt 19 [(0, .pv (sb l)), (1, fnV 44), (7, i64 l.length), (8, i64 i)] []) (fun i => l.length - i) 0 ⟨by omega, fun j hj => by omega⟩ (SubS.mk [] rfl ?_ trivial) fun i hi => ?_
  · exact ⟨⟨_, rfl, .same⟩, ⟨_, rfl, fnV_le⟩, ⟨_, rfl, .same⟩, ⟨_, rfl, .same⟩, trivial⟩
  obtain ⟨hi, hq⟩ := hi
  conv => whnf
  refine ⟨fun hc => ?_, fun hc => ?_⟩
  · have hc : (i : Int) < l.length := of_decide_eq_true hc
    have hlt : i < l.length := by omega
    conv => whnf
    refine ⟨⟨by omega, hc, rfl⟩, ?_⟩
    conv => whnf
    refine ⟨⟨Nat.le_refl _⟩, ?_⟩
    conv => whnf
    refine CallK.flat [] (f44 (l.getD i 0)) ⟨.same, trivial⟩ rfl ?_
    conv => whnf
    refine ⟨fun he => ?_, fun he => ?_⟩
    · have he : 2 < l.getD i 0 := of_decide_eq_true he
      conv => whnf
      refine done_int _ _ _ rfl rfl ?_
      rw [idxG_at l 0 i hlt hq he]; omega
    · have he : ¬ 2 < l.getD i 0 := of_decide_eq_false he
      conv => whnf
      refine ⟨⟨by unfold inI64; omega⟩, ?_⟩
      conv => whnf
      refine ⟨i + 1, ⟨by omega, fun j hj => ?_⟩, SubS.mk [] rfl ⟨⟨_, rfl, .same⟩, ⟨_, rfl, fnV_le⟩, ⟨_, rfl, .same⟩, ⟨_, rfl, .same⟩, trivial⟩ trivial, by omega⟩
      by_cases hji : j = i
      · subst hji; exact he
      · exact hq j (by omega)
  · have hc : ¬ (i : Int) < l.length := of_decide_eq_false hc
    conv => whnf
    refine done_int _ _ _ rfl rfl ?_
    rw [idxG_no l 0 fun j hj => hq j (by omega)]
theorem f50 (l : List Int) (hl : l.length < 2 ^ 62) : PureCall Try.prog 50 [.pv (sw l), fnV 46] (i64 (idxG 32767 l 0)) := by
  refine PureCall.run tab_ok mixed (by kernel_rfl) Try.func50 rfl rfl rfl ?_
  conv => whnf
  refine ex_loop tab_ok mixed (fun i => i ≤ l.length ∧ ∀ j, j < i → ¬ 32767 < l.getD j 0) (fun i : Nat => mkSt 19 [(0, .pv (sw l)), (1, fnV 46), (7, i64 l.length), (8, i64 i)] []) (fun i => l.length - i) 0 ⟨by omega, fun j hj => by omega⟩ (SubS.mk [] rfl ?_ trivial) fun i hi => ?_
  · exact ⟨⟨_, rfl, .same⟩, ⟨_, rfl, fnV_le⟩, ⟨_, rfl, .same⟩, ⟨_, rfl, .same⟩, trivial⟩
  obtain ⟨hi, hq⟩ := hi
  conv => whnf
  refine ⟨fun hc => ?_, fun hc => ?_⟩
  · have hc : (i : Int) < l.length := of_decide_eq_true hc
    have hlt : i < l.length := by omega
    conv => whnf
    refine ⟨⟨by omega, hc, rfl⟩, ?_⟩
    conv => whnf
    refine ⟨⟨Nat.le_refl _⟩, ?_⟩
    conv => whnf
    refine CallK.flat [] (f46 (l.getD i 0)) ⟨.same, trivial⟩ rfl ?_
    conv => whnf
    refine ⟨fun he => ?_, fun he => ?_⟩
    · have he : 32767 < l.getD i 0 := of_decide_eq_true he
      conv => whnf
      refine done_int _ _ _ rfl rfl ?_
      rw [idxG_at l 0 i hlt hq he]; omega
    · have he : ¬ 32767 < l.getD i 0 := of_decide_eq_false he
      conv => whnf
      refine ⟨⟨by unfold inI64; omega⟩, ?_⟩
      conv => whnf
      refine ⟨i + 1, ⟨by omega, fun j hj => ?_⟩, SubS.mk [] rfl ⟨⟨_, rfl, .same⟩, ⟨_, rfl, fnV_le⟩, ⟨_, rfl, .same⟩, ⟨_, rfl, .same⟩, trivial⟩ trivial, by omega⟩
      by_cases hji : j = i
      · subst hji; exact he
      · exact hq j (by omega)
  · have hc : ¬ (i : Int) < l.length := of_decide_eq_false hc
    conv => whnf
    refine done_int _ _ _ rfl rfl ?_
    rw [idxG_no l 0 fun j hj => hq j (by omega)]
theorem f43 (l : List Int) (hl : l.length < 2 ^ 62) : PureCall Try.prog 43 [.pv (sb l), fnV 44] (bb (decide (0 ≤ idxG 2 l 0))) := by
  refine PureCall.run tab_ok mixed (by kernel_rfl) Try.func43 rfl rfl rfl ?_
  conv => whnf
  refine CallK.flat [] (f49 l hl) ⟨.same, fnV_le, trivial⟩ rfl ?_
  conv => whnf
  exact done_bool _ _ rfl rfl rfl
theorem f45 (l : List Int) (hl : l.length < 2 ^ 62) : PureCall Try.prog 45 [.pv (sw l), fnV 46] (bb (decide (0 ≤ idxG 32767 l 0))) := by
  refine PureCall.run tab_ok mixed (by kernel_rfl) Try.func45 rfl rfl rfl ?_
  conv => whnf
  refine CallK.flat [] (f50 l hl) ⟨.same, fnV_le, trivial⟩ rfl ?_
  conv => whnf
  exact done_bool _ _ rfl rfl rfl
theorem f35 (b w : List Int) (h1 : b.length < 2 ^ 62) (h2 : w.length < 2 ^ 62) : PureCall Try.prog 35 [stP (b, w)] (bb (okS (b, w))) := by
  have e1 := idxG_all (c := 2) b 0 (Int.le_refl 0)
  have e2 := idxG_all (c := 32767) w 0 (Int.le_refl 0)
  have hok : okS (b, w) = (decide (b.length < 17) && decide (w.length < 20) && !decide (0 ≤ idxG 2 b 0) && !decide (0 ≤ idxG 32767 w 0)) := by rw [e1, e2]; rfl
  refine PureCall.run tab_ok mixed (by kernel_rfl) Try.func35 rfl rfl rfl ?_
  conv => whnf
  repeat (refine ⟨⟨rfl, rfl, nle rfl, nle rfl⟩, ?_⟩; conv => whnf)
  refine ⟨fun hc => ?_, fun hc => ?_⟩
  · have hc : decide ((b.length : Int) < 17) = true := hc
    have hc := of_decide_eq_true hc
    conv => whnf
    repeat (first
      | (refine ⟨fun _ => ?_, fun h => Bool.noConfusion h⟩; conv => whnf)
      | (refine ⟨⟨rfl, rfl, nle rfl, nle rfl⟩, ?_⟩; conv => whnf))
    refine ⟨fun hd => ?_, fun hd => ?_⟩
    · have hd : decide ((w.length : Int) < 20) = true := hd
      have hd := of_decide_eq_true hd
      conv => whnf
      repeat (first
        | (refine ⟨fun _ => ?_, fun h => Bool.noConfusion h⟩; conv => whnf)
        | (refine ⟨⟨rfl, rfl, nle rfl, nle rfl⟩, ?_⟩; conv => whnf))
      refine CallK.flat [] (f43 b h1) ⟨.same, fnV_le, trivial⟩ rfl ?_
      generalize decide (0 ≤ idxG 2 b 0) = x at hok
      cases x with
      | true =>
        conv => whnf
        repeat (first
          | (refine ⟨fun _ => ?_, fun h => Bool.noConfusion h⟩; conv => whnf)
          | (refine ⟨fun h => Bool.noConfusion h, fun _ => ?_⟩; conv => whnf)
          | (refine ⟨⟨rfl, rfl, nle rfl, nle rfl⟩, ?_⟩; conv => whnf))
        refine done_bool _ _ rfl rfl (Eq.symm ?_)
        rw [hok]; simp
      | false =>
        conv => whnf
        repeat (first
          | (refine ⟨fun _ => ?_, fun h => Bool.noConfusion h⟩; conv => whnf)
          | (refine ⟨fun h => Bool.noConfusion h, fun _ => ?_⟩; conv => whnf)
          | (refine ⟨⟨rfl, rfl, nle rfl, nle rfl⟩, ?_⟩; conv => whnf))
        refine CallK.flat [] (f45 w h2) ⟨.same, fnV_le, trivial⟩ rfl ?_
        generalize decide (0 ≤ idxG 32767 w 0) = z at hok
        conv => whnf
        repeat (refine ⟨fun _ => ?_, fun h => Bool.noConfusion h⟩; conv => whnf)
        refine done_bool _ _ rfl rfl (Eq.symm ?_)
        rw [hok, decide_eq_true (by omega : b.length < 17), decide_eq_true (by omega : w.length < 20)]; rfl
    · have hd : decide ((w.length : Int) < 20) = false := hd
      have hd := of_decide_eq_false hd
      conv => whnf
      repeat (refine ⟨fun h => Bool.noConfusion h, fun _ => ?_⟩; conv => whnf)
      refine done_bool _ _ rfl rfl (Eq.symm ?_)
      rw [hok, decide_eq_false (by omega : ¬ w.length < 20)]; simp
  · have hc : decide ((b.length : Int) < 17) = false := hc
    have hc := of_decide_eq_false hc
    conv => whnf
    repeat (refine ⟨fun h => Bool.noConfusion h, fun _ => ?_⟩; conv => whnf)
    refine done_bool _ _ rfl rfl (Eq.symm ?_)
    rw [hok, decide_eq_false (by omega : ¬ b.length < 17)]; rfl
theorem f36 (l : List Int) (hl : l.length < 2 ^ 40) : HeapCall Try.prog 36 [.pv (sb l)] [] (fun r Hout => ∃ g, r = .row 300 g 1 0 l.length ∧ Hout = [(300, rowL 5 .u8 g l)]) := by
  refine HeapCall.run tab_ok mixed (by kernel_rfl) Try.func36 rfl rfl rfl ?_
  conv => whnf
  rintro v ⟨b, hb, rfl⟩
  conv => whnf
  refine ⟨fun hc => ?_, fun hc => ?_⟩
  · have hc : b = true := hc
    subst hc
    have h0 : l = [] := by
      cases l with
      | nil => rfl
      | cons y l => exact absurd (hb (by simp)) (by decide)
    subst h0
    conv => whnf
    refine ⟨_, _, ⟨0, rfl, rfl⟩, SubS.mkN [] [] rfl rfl rfl ⟨⟨_, rfl, .void _ _ _⟩, trivial⟩ ⟨.inr ⟨rfl, rfl⟩, trivial⟩⟩
  · conv => whnf
    refine ⟨⟨rfl, rfl, rfl, rfl, rfl, rfl, rfl, show (0 + l.length) * 1 ≤ 140737488355328 by omega⟩, ?_⟩
    conv => whnf
    refine ⟨_, _, ⟨1, rfl, rfl⟩, SubS.mkN [] [(300, 5)] rfl rfl rfl ⟨⟨_, rfl, .row _ _ _ _ _ _ _ _ _ rfl rfl rfl (Nat.zero_add _)⟩, trivial⟩ ⟨.inl ⟨_, _, rfl, rfl, rfl, OLe.rowL rfl rfl rfl (show l.length ≤ 0 + l.length by omega) ?_⟩, trivial⟩⟩
    try dsimp only
    exact IsL.cat' [] l rfl rfl rfl IsL.nil IsL.seq
theorem f37 (l : List Int) (hl : l.length < 2 ^ 40) : HeapCall Try.prog 37 [.pv (sw l)] [] (fun r Hout => ∃ g, r = .row 300 g 1 0 l.length ∧ Hout = [(300, rowL 23 .u16 g l)]) := by
  refine HeapCall.run tab_ok mixed (by kernel_rfl) Try.func37 rfl rfl rfl ?_
  conv => whnf
  rintro v ⟨b, hb, rfl⟩
  conv => whnf
  refine ⟨fun hc => ?_, fun hc => ?_⟩
  · have hc : b = true := hc
    subst hc
    have h0 : l = [] := by
      cases l with
      | nil => rfl
      | cons y l => exact absurd (hb (by simp)) (by decide)
    subst h0
    conv => whnf
    refine ⟨_, _, ⟨0, rfl, rfl⟩, SubS.mkN [] [] rfl rfl rfl ⟨⟨_, rfl, .void _ _ _⟩, trivial⟩ ⟨.inr ⟨rfl, rfl⟩, trivial⟩⟩
  · conv => whnf
    refine ⟨⟨rfl, rfl, rfl, rfl, rfl, rfl, rfl, show (0 + l.length) * 2 ≤ 140737488355328 by omega⟩, ?_⟩
    conv => whnf
    refine ⟨_, _, ⟨1, rfl, rfl⟩, SubS.mkN [] [(300, 5)] rfl rfl rfl ⟨⟨_, rfl, .row _ _ _ _ _ _ _ _ _ rfl rfl rfl (Nat.zero_add _)⟩, trivial⟩ ⟨.inl ⟨_, _, rfl, rfl, rfl, OLe.rowL rfl rfl rfl (show l.length ≤ 0 + l.length by omega) ?_⟩, trivial⟩⟩
    try dsimp only
    exact IsL.cat' [] l rfl rfl rfl IsL.nil IsL.seq
theorem f27 (b w : List Int) (x : Int) (hx : 0 ≤ x ∧ x < 256) (hb : ∀ y ∈ b, 0 ≤ y ∧ y < 256) (hw : ∀ y ∈ w, W y) (hbl : b.length < 2 ^ 60) (hwl : w.length < 2 ^ 60) :
    PureCall Try.prog 27 [stP (b, w), u8 x] (stepP (pushS (normS (b, w)).1 (normS (b, w)).2 x)) := by
  refine PureCall.run tab_ok mixed (by kernel_rfl) Try.func27 rfl rfl rfl ?_
  conv => whnf
  repeat (refine ⟨⟨rfl, rfl, nle rfl, nle rfl⟩, ?_⟩; conv => whnf)
  refine CallK.flat [] (f35 b w (by omega) (by omega)) ⟨.agg _ _ _ fun i hi => ?_, trivial⟩ rfl ?_
  · match i with
    | 0 => exact .same
    | 1 => exact .same
  conv => whnf
  refine ⟨fun hv => ?_, fun hv => ?_⟩
  · have hv : okS (b, w) = true := hv
    have hns : normS (b, w) = (b, w) := by unfold normS; rw [hv]; rfl
    rw [hns]
    obtain ⟨hbl, hwl, _, _⟩ := okS_iff.mp hv
    conv => whnf
    repeat (refine ⟨⟨rfl, rfl, nle rfl, nle rfl⟩, ?_⟩; conv => whnf)
    refine CallK.heap (f36 b (by omega)) [] [] rfl rfl ⟨.same, trivial⟩ trivial 1000 rfl ?_
    rintro r Hout ⟨g1, rfl, rfl⟩
    conv => whnf
    repeat (refine ⟨⟨rfl, rfl, nle rfl, nle rfl⟩, ?_⟩; conv => whnf)
    refine CallK.heap (f37 w (by omega)) [] [] rfl rfl ⟨.same, trivial⟩ trivial 2000 rfl ?_
    rintro r Hout ⟨g2, rfl, rfl⟩
    conv => whnf
    repeat (refine ⟨⟨rfl, rfl, nle rfl, nle rfl⟩, ?_⟩; conv => whnf)
    refine CallK.heap (f34 b w x g1 g2 hx hb hw hbl hwl) [] [(100, 1300), (101, 2300)] rfl rfl ⟨.agg _ _ _ fun k hk => ?_, .same, trivial⟩ ⟨.inl ⟨_, _, rfl, rfl, rfl, OLe.rowL rfl rfl rfl (Nat.le_refl _) IsL.seq⟩, .inl ⟨_, _, rfl, rfl, rfl, OLe.rowL rfl rfl rfl (Nat.le_refl _) IsL.seq⟩, trivial⟩ 3000 rfl ?_
    · match k with
      | 0 => exact .row _ _ _ _ _ _ _ _ _ rfl rfl rfl rfl
      | 1 => exact .row _ _ _ _ _ _ _ _ _ rfl rfl rfl rfl
    rintro r Hout ⟨h1, h2, rfl, rfl⟩
    dsimp only
    obtain ⟨⟨b', w'⟩, e, ok⟩ := pushS b w x
    conv => whnf
    repeat (refine ⟨⟨rfl, rfl, nle rfl, nle rfl⟩, ?_⟩; conv => whnf)
    refine stepP_end (B := [3200, 3201]) (.agg _ _ _ fun k hk => ?_) (.agg _ _ _ fun k hk => ?_) .same
    · match k with
      | 0 => exact .frz0 _ rfl rfl rfl rfl rfl (Nat.le_refl _) rfl IsL.seq
      | 1 => exact .frz0 _ rfl rfl rfl rfl rfl (Nat.le_refl _) rfl IsL.seq
    · match k with
      | 0 => exact .same
      | 1 => exact .same
  · have hv : okS (b, w) = false := hv
    have hns : normS (b, w) = ([], []) := by unfold normS; rw [hv]; rfl
    rw [hns]
    conv => whnf
    repeat (refine ⟨⟨rfl, rfl, nle rfl, nle rfl⟩, ?_⟩; conv => whnf)
    refine CallK.heap (f34 [] [] x 0 0 hx (fun y hy => (by cases hy)) (fun y hy => (by cases hy)) (by decide) (by decide)) [] [] rfl rfl ⟨.agg _ _ _ fun k hk => ?_, .same, trivial⟩ ⟨.inr ⟨rfl, rfl⟩, .inr ⟨rfl, rfl⟩, trivial⟩ 3000 rfl ?_
    · match k with
      | 0 => exact .void _ _ _
      | 1 => exact .void _ _ _
    rintro r Hout ⟨h1, h2, rfl, rfl⟩
    dsimp only
    obtain ⟨⟨b', w'⟩, e, ok⟩ := pushS [] [] x
    conv => whnf
    repeat (refine ⟨⟨rfl, rfl, nle rfl, nle rfl⟩, ?_⟩; conv => whnf)
    refine stepP_end (B := [3200, 3201]) (.agg _ _ _ fun k hk => ?_) (.agg _ _ _ fun k hk => ?_) .same
    · match k with
      | 0 => exact .frz0 _ rfl rfl rfl rfl rfl (Nat.le_refl _) rfl IsL.seq
      | 1 => exact .frz0 _ rfl rfl rfl rfl rfl (Nat.le_refl _) rfl IsL.seq
    · match k with
      | 0 => exact .same
      | 1 => exact .same
end Go.Proofs.Ytncmpjpmcliomaa

namespace Go.Proofs.Ytncmpjpmcliomaa
open Go Go.AM
attribute [local irreducible] AWP CallK PureCall SubS HeapCall
theorem norm_ok {b w : List Int} (hb : ∀ y ∈ b, 0 ≤ y ∧ y < 256) (hw : ∀ y ∈ w, W y) : StOk (normS (b, w)).1 (normS (b, w)).2 := by
  unfold normS
  cases h : okS (b, w) with
  | true => obtain ⟨h1, h2, _⟩ := okS_iff.mp h; exact ⟨h1, h2, hb, hw⟩
  | false => exact ⟨Nat.zero_lt_succ _, Nat.zero_lt_succ _, fun y hy => (by cases hy), fun y hy => (by cases hy)⟩
theorem f10 (b w : List Int) (x : Int) (hx : 0 ≤ x ∧ x < 256) (hb : ∀ y ∈ b, 0 ≤ y ∧ y < 256) (hw : ∀ y ∈ w, W y) (hbl : b.length < 2 ^ 60) (hwl : w.length < 2 ^ 60) :
    PureCall Try.prog 10 [stP (b, w), u8 x] (bb true) := by
  refine PureCall.run tab_ok mixed (by kernel_rfl) Try.func10 rfl rfl rfl ?_
  conv => whnf
  repeat (refine ⟨⟨rfl, rfl, nle rfl, nle rfl⟩, ?_⟩; conv => whnf)
  refine CallK.drop [] (f27 b w x hx hb hw hbl hwl) ⟨.agg _ _ _ fun i hi => ?_, .same, trivial⟩ ?_
  · match i with
    | 0 => exact .same
    | 1 => exact .same
  conv => whnf
  repeat (refine ⟨⟨rfl, rfl, nle rfl, nle rfl⟩, ?_⟩; conv => whnf)
  refine CallK.drop [] (f28 b w x hx hb hw hbl hwl) ⟨.agg _ _ _ fun i hi => ?_, .same, trivial⟩ ?_
  · match i with
    | 0 => exact .same
    | 1 => exact .same
  obtain ⟨hk1, hk2⟩ := push_ok (norm_ok hb hw) hx
  generalize pushS (normS (b, w)).1 (normS (b, w)).2 x = p at hk1 hk2 ⊢
  obtain ⟨⟨b', w'⟩, ⟨id, d⟩, ok⟩ := p
  conv => whnf
  repeat (refine ⟨⟨rfl, rfl, nle rfl, nle rfl⟩, ?_⟩; conv => whnf)
  repeat (first
    | (refine ⟨fun _ => ?_, fun h => Bool.noConfusion h⟩; conv => whnf)
    | (refine ⟨fun _ => ?_, fun h => absurd (h.symm.trans (beq_self_eq_true _)) (by decide)⟩; conv => whnf)
    | (refine ⟨⟨rfl, rfl, nle rfl, nle rfl⟩, ?_⟩; conv => whnf))
  refine CallK.flat [] (f29 (b', w') (b', w') (Nat.lt_of_lt_of_le hk1.2.1 (by decide)) (Nat.lt_of_lt_of_le hk1.2.1 (by decide)) hk1.2.2.1 hk1.2.2.1) ⟨.agg _ _ _ fun i hi => ?_, .agg _ _ _ fun i hi => ?_, trivial⟩ rfl ?_
  · match i with
    | 0 => exact .same
    | 1 => exact .same
  · match i with
    | 0 => exact .same
    | 1 => exact .same
  rw [decide_eq_true (rfl : (b', w') = (b', w'))]
  conv => whnf
  repeat (first
    | (refine ⟨fun _ => ?_, fun h => Bool.noConfusion h⟩; conv => whnf)
    | (refine ⟨⟨rfl, rfl, nle rfl, nle rfl⟩, ?_⟩; conv => whnf))
  have hd : ∀ y ∈ [((id, d) : Lst)], y.2.length < 2 ^ 62 := fun y hy => by
    rw [List.mem_singleton.mp hy]; exact Nat.lt_of_le_of_lt hk2 (by decide)
  refine CallK.flat [35, 37] (f20 [(id, d)] [(id, d)] (show 1 < 2 ^ 62 by decide) (show 1 < 2 ^ 62 by decide) hd hd) ⟨.frz _ _ _ _ _ _ _ _ rfl rfl rfl rfl (nle rfl) fun i j hi hj => ?_, .frz _ _ _ _ _ _ _ _ rfl rfl rfl rfl (nle rfl) fun i j hi hj => ?_, trivial⟩ rfl ?_
  · match i, j with
    | 0, 0 => exact .same
    | 0, 1 => exact .same
  · match i, j with
    | 0, 0 => exact .same
    | 0, 1 => exact .same
  rw [decide_eq_true (rfl : [((id, d) : Lst)] = [(id, d)])]
  conv => whnf
  repeat (refine ⟨fun _ => ?_, fun h => Bool.noConfusion h⟩; conv => whnf)
  refine CallK.flat [] awake trivial rfl ?_
  conv => whnf
  exact done_bool _ _ rfl rfl rfl
end Go.Proofs.Ytncmpjpmcliomaa

namespace Go.Proofs.Ytncmpjpmcliomaa
open Go Go.AM
attribute [local irreducible] AWP CallK PureCall SubS HeapCall
theorem push_no {b w : List Int} {x : Int} : (pushS b w x).2.2 = false → (pushS b w x).2.1 = (0, []) := by
  unfold pushS
  split
  · intro _; rfl
  · unfold stepW
    split
    · intro _; rfl
    · split
      · intro _; rfl
      · intro h; cases h
theorem push_len {b w : List Int} {x : Int} (hb : b.length < 17) : (pushS b w x).1.1.length = (b.length + 1) % 17 := by
  unfold pushS
  split
  · rename_i h
    have : (b ++ [cut2 x]).length = b.length + 1 := by simp
    show (b ++ [cut2 x]).length = _
    omega
  · rename_i h
    have : (b ++ [cut2 x]).length = b.length + 1 := by simp
    have hz : (b.length + 1) % 17 = 0 := by omega
    rw [hz]
    unfold stepW
    split
    · rfl
    · split <;> rfl
theorem dec_len {l : List Int} (hw : ∀ x ∈ l, 0 ≤ x ∧ x < 256) : ∀ i, (decN l i).1.1.length = i % 17 := by
  intro i
  induction i with
  | zero => rfl
  | succ i ih =>
    show (pushS (decN l i).1.1 (decN l i).1.2 (l.getD i 0)).1.1.length = _
    rw [push_len (dec_ok hw i).1.1, ih]
    omega
theorem f11 (l : List Int) (hl : l.length < 2 ^ 60) (hw : ∀ x ∈ l, 0 ≤ x ∧ x < 256) : PureCall Try.prog 11 [.pv (sb l)] (bb true) := by
  refine PureCall.run tab_ok mixed (by kernel_rfl) Try.func11 rfl rfl rfl ?_
  conv => whnf
  refine ⟨fun hc => ?_, fun hc => ?_⟩
  · conv => whnf
    refine CallK.flat [] awake trivial rfl ?_
    conv => whnf
    exact done_bool _ _ rfl rfl rfl
  have hc : ¬ (2000 : Int) < l.length := of_decide_eq_false hc
  have hl : l.length ≤ 2000 := by omega
  conv => whnf
  refine ex_loop tab_ok mixed (fun x : Nat × Nat => x.1 ≤ l.length) (fun x : Nat × Nat => mkSt 64 [(0, .pv (sb l)), (5, i64 x.1), (4, .row 1003 x.2 2 0 (decN l x.1).2.length), (3, .ptr 3 0 2 0 0)]
      [(3, boxS (decN l x.1).1), (1003, outR x.2 (decN l x.1).2)]) (fun x => l.length - x.1) (0, 0) (Nat.zero_le _) (SubS.mkN [] [(3, 3)] rfl rfl rfl ?_ ?_) fun x hx => ?_
  · exact ⟨⟨_, rfl, .same⟩, ⟨_, rfl, .same⟩, ⟨_, rfl, .void _ _ _⟩, ⟨_, rfl, .ptr _ _ _ _ _ _ _ _ _ rfl rfl rfl rfl⟩, trivial⟩
  · refine ⟨.inl ⟨_, _, rfl, rfl, rfl, rfl, rfl, rfl, Nat.le_refl _, fun i j hi hj => ?_⟩, .inr ⟨rfl, rfl⟩, trivial⟩
    match i, j with
    | 0, 0 => exact .nilL
    | 0, 1 => exact .nilL
  obtain ⟨i, g3⟩ := x
  have hi : i ≤ l.length := hx
  obtain ⟨hst, hol, hod⟩ := dec_ok hw i
  have hok := dec_okS hw i
  have hlen := dec_len hw i
  have hlen' := dec_len hw (i + 1)
  have hst' := (dec_ok hw (i + 1)).1
  have hdN : decN l (i + 1) = ((pushS (decN l i).1.1 (decN l i).1.2 (l.getD i 0)).1, bif (pushS (decN l i).1.1 (decN l i).1.2 (l.getD i 0)).2.2 then (decN l i).2 ++ [(pushS (decN l i).1.1 (decN l i).1.2 (l.getD i 0)).2.1] else (decN l i).2) := rfl
  have hfin : i = l.length → decS l = (decN l i).2 := fun h => by unfold decS; rw [h]
  rw [hdN] at hlen' hst'
  generalize decN l i = D at *
  obtain ⟨⟨b, w⟩, out⟩ := D
  conv => whnf
  refine ⟨fun hc => ?_, fun hc => ?_⟩
  · have hc : (i : Int) < l.length := of_decide_eq_true hc
    conv => whnf
    repeat (refine ⟨⟨rfl, rfl, nle rfl, nle rfl⟩, ?_⟩; conv => whnf)
    refine ⟨⟨by omega, by omega, rfl⟩, ?_⟩
    conv => whnf
    refine ⟨⟨Nat.le_refl _⟩, ?_⟩
    conv => whnf
    have hx := getD_bd hw i
    generalize hxx : l.getD i 0 = x at *
    have hns : normS (b, w) = (b, w) := by unfold normS; rw [show okS (b, w) = true from hok]; rfl
    have hcall := f27 b w x hx hst.2.2.1 hst.2.2.2 (Nat.lt_of_lt_of_le hst.1 (by decide)) (Nat.lt_of_lt_of_le hst.2.1 (by decide))
    rw [hns] at hcall
    dsimp only at hdN hcall hlen' hst'
    have hno := push_no (b := b) (w := w) (x := x)
    generalize pushS b w x = p at hdN hcall hlen' hst' hno
    obtain ⟨⟨b', w'⟩, e, ok⟩ := p
    have hlen' : b'.length = (i + 1) % 17 := hlen'
    have hst' : StOk b' w' := hst'
    refine ⟨_, [], ⟨_, hcall, ⟨.agg _ _ _ fun k hk => ?_, .int hxx, trivial⟩, .inr rfl⟩, ?_⟩
    · match k with
      | 0 => exact .same
      | 1 => exact .same
    conv => whnf
    repeat (refine ⟨⟨rfl, rfl, nle rfl, nle rfl⟩, ?_⟩; conv => whnf)
    refine ⟨rfl, ?_⟩
    conv => whnf
    have hw20 : w'.length < 20 := hst'.2.1
    have hcmp : ((b'.length : Int) != ((i : Int) + 1).tmod 17) = false := by
      rw [bne_eq_false_iff_eq, Int.tmod_eq_emod_of_nonneg (by omega), hlen']
      omega
    refine ⟨fun hok => ?_, fun hok => ?_⟩
    · have hok : ok = true := hok
      subst hok
      have hdN : decN l (i + 1) = ((b', w'), out ++ [e]) := hdN
      conv => whnf
      repeat (refine ⟨⟨rfl, rfl, nle rfl, nle rfl⟩, ?_⟩; conv => whnf)
      refine ⟨⟨⟨rfl, rfl, rfl, nle rfl⟩, rfl, rfl, rfl, rfl, rfl, rfl, show (out.length + 1) * 32 ≤ 140737488355328 by have : out.length ≤ i := hol; omega⟩, ?_⟩
      conv => whnf
      repeat (refine ⟨⟨rfl, rfl, nle rfl, nle rfl⟩, ?_⟩; conv => whnf)
      refine ⟨⟨show inI64 ((i : Int) + 1) by unfold inI64; omega⟩, ?_⟩
      conv => whnf
      refine ⟨⟨by decide⟩, ?_⟩
      conv => whnf
      refine ⟨fun _ => ?_, fun h => absurd (hcmp.symm.trans h) (by decide)⟩
      conv => whnf
      repeat (first
        | (refine ⟨fun _ => ?_, fun h => Bool.noConfusion h⟩; conv => whnf)
        | (refine ⟨⟨rfl, rfl, nle rfl, nle rfl⟩, ?_⟩; conv => whnf))
      refine ⟨fun h => absurd (of_decide_eq_true h) (show ¬ (19 : Int) < (w'.length : Int) by omega), fun _ => ?_⟩
      conv => whnf
      repeat (refine ⟨⟨rfl, rfl, nle rfl, nle rfl⟩, ?_⟩; conv => whnf)
      refine ⟨⟨by unfold inI64; omega⟩, ?_⟩
      conv => whnf
      refine ⟨(i + 1, g3 + 1), by show i + 1 ≤ l.length; omega, SubS.mkN [] [(3, 3), (1003, 1003)] rfl rfl rfl ?_ ?_, by show l.length - (i + 1) < l.length - i; omega⟩
      · refine ⟨⟨_, rfl, .same⟩, ⟨_, rfl, .same⟩, ⟨_, rfl, ?_⟩, ⟨_, rfl, .ptr _ _ _ _ _ _ _ _ _ rfl rfl rfl rfl⟩, trivial⟩
        show VLe _ _ _ _ (.row 1003 _ 2 0 (decN l (i + 1)).2.length)
        rw [hdN]
        exact .row _ _ _ _ _ _ _ _ _ rfl rfl rfl (by simp)
      show AllH _ _ _ [(3, boxS (decN l (i + 1)).1), (1003, outR _ (decN l (i + 1)).2)]
      rw [hdN]
      refine ⟨.inl ⟨_, _, rfl, rfl, rfl, rfl, rfl, rfl, Nat.le_refl _, fun i j hi hj => ?_⟩, .inl ⟨_, _, rfl, rfl, rfl, rfl, rfl, rfl, (by simp [outR]), fun i j hi hj => ?_⟩, trivial⟩
      · match i, j with
        | 0, 0 => exact .same
        | 0, 1 => exact .same
      · have hi : i < out.length + 1 := by simpa [outR] using hi
        dsimp only
        refine VLe.snoc hi (fun h => ?_) fun h => ?_
        · show VLe _ _ _ _ (.pv (cellP ((out ++ [e]).getD i (0, [])) j))
          rw [show (out ++ [e]).getD i (0, []) = out.getD i (0, []) by rw [List.getD_eq_getElem?_getD, List.getD_eq_getElem?_getD, List.getElem?_append_left h]]
          exact .same
        · show VLe _ _ _ _ (.pv (cellP ((out ++ [e]).getD i (0, [])) j))
          rw [show (out ++ [e]).getD i (0, []) = e by subst h; simp [List.getD_eq_getElem?_getD]]
          match j with
          | 0 => exact .same
          | 1 => exact .same
    · have hok : ok = false := hok
      subst hok
      have hdN : decN l (i + 1) = ((b', w'), out) := hdN
      have he : e = (0, []) := hno rfl
      subst he
      conv => whnf
      repeat (refine ⟨⟨rfl, rfl, nle rfl, nle rfl⟩, ?_⟩; conv => whnf)
      repeat (first
        | (refine ⟨fun _ => ?_, fun h => Bool.noConfusion h⟩; conv => whnf)
        | (refine ⟨⟨rfl, rfl, nle rfl, nle rfl⟩, ?_⟩; conv => whnf))
      refine ⟨fun h => Bool.noConfusion h, fun _ => ?_⟩
      conv => whnf
      repeat (refine ⟨⟨rfl, rfl, nle rfl, nle rfl⟩, ?_⟩; conv => whnf)
      refine ⟨⟨show inI64 ((i : Int) + 1) by unfold inI64; omega⟩, ?_⟩
      conv => whnf
      refine ⟨⟨by decide⟩, ?_⟩
      conv => whnf
      refine ⟨fun _ => ?_, fun h => absurd (hcmp.symm.trans h) (by decide)⟩
      conv => whnf
      repeat (first
        | (refine ⟨fun _ => ?_, fun h => Bool.noConfusion h⟩; conv => whnf)
        | (refine ⟨⟨rfl, rfl, nle rfl, nle rfl⟩, ?_⟩; conv => whnf))
      refine ⟨fun h => absurd (of_decide_eq_true h) (show ¬ (19 : Int) < (w'.length : Int) by omega), fun _ => ?_⟩
      conv => whnf
      repeat (refine ⟨⟨rfl, rfl, nle rfl, nle rfl⟩, ?_⟩; conv => whnf)
      refine ⟨⟨by unfold inI64; omega⟩, ?_⟩
      conv => whnf
      refine ⟨(i + 1, g3), by show i + 1 ≤ l.length; omega, SubS.mkN [] [(3, 3), (1003, 1003)] rfl rfl rfl ?_ ?_, by show l.length - (i + 1) < l.length - i; omega⟩
      · refine ⟨⟨_, rfl, .same⟩, ⟨_, rfl, .same⟩, ⟨_, rfl, ?_⟩, ⟨_, rfl, .ptr _ _ _ _ _ _ _ _ _ rfl rfl rfl rfl⟩, trivial⟩
        show VLe _ _ _ _ (.row 1003 _ 2 0 (decN l (i + 1)).2.length)
        rw [hdN]
        exact .row _ _ _ _ _ _ _ _ _ rfl rfl rfl rfl
      show AllH _ _ _ [(3, boxS (decN l (i + 1)).1), (1003, outR _ (decN l (i + 1)).2)]
      rw [hdN]
      refine ⟨.inl ⟨_, _, rfl, rfl, rfl, rfl, rfl, rfl, Nat.le_refl _, fun i j hi hj => ?_⟩, .inl ⟨_, _, rfl, rfl, rfl, rfl, rfl, rfl, Nat.le_refl _, fun i j hi hj => ?_⟩, trivial⟩
      · match i, j with
        | 0, 0 => exact .same
        | 0, 1 => exact .same
      · exact .same
  · have hc : ¬ (i : Int) < l.length := of_decide_eq_false hc
    have hfin := hfin (by omega)
    conv => whnf
    repeat (refine ⟨⟨rfl, rfl, nle rfl, nle rfl⟩, ?_⟩; conv => whnf)
    refine CallK.drop [] (f21 l (by omega) hw) ⟨.same, trivial⟩ ?_
    rw [hfin]
    have hb2 := decS_bd hw
    rw [hfin] at hb2
    have hb2 : out.length ≤ l.length ∧ ∀ x ∈ out, x.2.length < 2 ^ 62 := hb2
    conv => whnf
    refine CallK.flat [1003] (f20 out out (by omega) (by omega) hb2.2 hb2.2) ⟨.frz _ _ _ _ _ _ _ _ rfl rfl rfl rfl (by simp [outR]) fun i j hi hj => ?_, .same, trivial⟩ rfl ?_
    · rw [Nat.zero_add]
      exact .same
    rw [decide_eq_true (rfl : out = out)]
    conv => whnf
    repeat (refine ⟨fun _ => ?_, fun h => Bool.noConfusion h⟩; conv => whnf)
    refine CallK.flat [] awake trivial rfl ?_
    conv => whnf
    exact done_bool _ _ rfl rfl rfl
end Go.Proofs.Ytncmpjpmcliomaa
