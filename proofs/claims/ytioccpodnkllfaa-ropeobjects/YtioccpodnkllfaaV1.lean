/- Part of the proof: what the functions that the law calls compute (1). -/
import Derived.Test.YtioccpodnkllfaaB
import Derived.KernelRfl
namespace Go.Proofs.Ytioccpodnkllfaa
open Go Go.AM
/-- A test's outcome in other words. -/
class Nm (p : Prop) (q : outParam Prop) : Prop where
  out : p → q
theorem nm {p q : Prop} [Nm p q] (h : p) : q := Nm.out h
instance (priority := 10) {b : Bool} : Nm (b = true) (b = true) := ⟨id⟩
instance (priority := 10) {b : Bool} : Nm (b = false) (b = false) := ⟨id⟩
instance (priority := 2000) {b : Bool} {q : Prop} [h : Nm (b = false) q] : Nm (b = !true) q := ⟨h.out⟩
instance (priority := 2000) {b : Bool} {q : Prop} [h : Nm (b = true) q] : Nm (b = !false) q := ⟨h.out⟩
instance (priority := 1000) {b : Bool} {q : Prop} [h : Nm (b = false) q] : Nm ((!b) = true) q := ⟨fun e => h.out (by cases b <;> simp_all)⟩
instance (priority := 1000) {b : Bool} {q : Prop} [h : Nm (b = true) q] : Nm ((!b) = false) q := ⟨fun e => h.out (by cases b <;> simp_all)⟩
instance (priority := 500) {p : Prop} [Decidable p] : Nm (decide p = true) p := ⟨of_decide_eq_true⟩
instance (priority := 500) {p : Prop} [Decidable p] : Nm (decide p = false) (¬ p) := ⟨of_decide_eq_false⟩
instance (priority := 600) {a b : Int} [Decidable (a ≤ b)] : Nm (decide (a ≤ b) = false) (b < a) := ⟨fun e => Int.not_le.mp (of_decide_eq_false e)⟩
instance (priority := 600) {a b : Int} [Decidable (a < b)] : Nm (decide (a < b) = false) (b ≤ a) := ⟨fun e => Int.not_lt.mp (of_decide_eq_false e)⟩
instance (priority := 500) {α : Type} [BEq α] [LawfulBEq α] {a b : α} : Nm ((a == b) = true) (a = b) := ⟨eq_of_beq⟩
instance (priority := 500) {α : Type} [BEq α] [LawfulBEq α] {a b : α} : Nm ((a == b) = false) (¬ a = b) := ⟨fun e h => by subst h; simp at e⟩
instance (priority := 500) {α : Type} [BEq α] [LawfulBEq α] {a b : α} : Nm ((a != b) = true) (¬ a = b) := ⟨fun e h => by subst h; simp at e⟩
instance (priority := 500) {α : Type} [BEq α] [LawfulBEq α] {a b : α} : Nm ((a != b) = false) (a = b) := ⟨fun e => by simpa using e⟩
theorem ga {w : Bool} {A B : Prop} (h : A) : (w = w → A) ∧ (w = !w → B) := ⟨fun _ => h, fun e => absurd e (by cases w <;> decide)⟩
theorem gb {w : Bool} {A B : Prop} (h : B) : ((!w) = w → A) ∧ ((!w) = !w → B) := ⟨fun e => absurd e (by cases w <;> decide), fun _ => h⟩
theorem gc {A B : Prop} (h : B) : (true = false → A) ∧ (true = !false → B) := ⟨fun e => absurd e (by decide), fun _ => h⟩
theorem gd {A B : Prop} (h : B) : (false = true → A) ∧ (false = !true → B) := ⟨fun e => absurd e (by decide), fun _ => h⟩
theorem ge {A B : Prop} (h : A) : ((!true) = false → A) ∧ ((!true) = !false → B) := ⟨fun _ => h, fun e => absurd e (by decide)⟩
theorem gf {A B : Prop} (h : A) : ((!false) = true → A) ∧ ((!false) = !true → B) := ⟨fun _ => h, fun e => absurd e (by decide)⟩
theorem gg {A B : Prop} (h : A) : (true = true → A) ∧ (true = false → B) := ⟨fun _ => h, fun e => absurd e (by decide)⟩
theorem gh {A B : Prop} (h : B) : (false = true → A) ∧ (false = false → B) := ⟨fun e => absurd e (by decide), fun _ => h⟩
theorem gi {A B : Prop} (h : B) : ((!true) = true → A) ∧ ((!true) = false → B) := ⟨fun e => absurd e (by decide), fun _ => h⟩
theorem gj {A B : Prop} (h : A) : ((!false) = true → A) ∧ ((!false) = false → B) := ⟨fun _ => h, fun e => absurd e (by decide)⟩
end Go.Proofs.Ytioccpodnkllfaa

namespace Go.Proofs.Ytioccpodnkllfaa
open Go Go.AM
attribute [local irreducible] AWP CallK PureCall SubS HeapCall
def i64 (n : Int) : AV := .pv (.int .i64 n)
def u16 (n : Int) : AV := .pv (.int .u16 n)
def u32 (n : Int) : AV := .pv (.int .u32 n)
def bb (b : Bool) : AV := .pv (.bool b)
def lo (w : Nat) : Nat := w % 32768
def add (a b : Nat) : Nat := if 32767 < lo a + lo b then lo a + lo b - 32767 else lo a + lo b
def neg (w : Nat) : Nat := 32767 - lo w
def value (w : Nat) : Int := if 16383 < lo w then (lo w : Int) - 32767 else lo w
theorem and15n (w : Nat) (h : w < 65536) : bitsOf .and .u16 (w : Int) 32767 = ((lo w : Nat) : Int) :=
  (and15 (by omega) (by omega)).trans (by unfold lo; omega)
theorem lo_lt (w : Nat) : lo w < 32768 := Nat.mod_lt _ (by decide)
theorem not16 (w : Nat) (h : w < 65536) : 65535 ^^^ w = 65535 - w := by
  have h' : w < 2 ^ 16 := h
  apply Nat.eq_of_testBit_eq
  intro i
  rw [Nat.testBit_xor, show (65535 : Nat) = 2 ^ 16 - 1 from rfl, Nat.testBit_two_pow_sub_one, show 2 ^ 16 - 1 - w = 2 ^ 16 - (w + 1) by omega, Nat.testBit_two_pow_sub_succ h']
  by_cases hi : i < 16
  · simp [hi]
  · have : w.testBit i = false := Nat.testBit_lt_two_pow (Nat.lt_of_lt_of_le h' (Nat.pow_le_pow_right (by decide) (by omega)))
    simp [hi, this]
theorem negbits (w : Nat) (h : w < 65536) : bitsOf .and .u16 (bitsOf .xor .u16 65535 (w : Int)) 32767 = ((neg w : Nat) : Int) := by
  have e := xor_nat (k := .u16) rfl (a := 65535) (b := w) (by decide) h
  rw [not16 w h] at e
  rw [show (65535 : Int) = ((65535 : Nat) : Int) from rfl, e, and15n _ (by omega)]
  unfold neg lo
  omega
theorem wn16 {n : Int} (h : 0 ≤ n) (h' : n < 65536) : IntKind.u16.wrap n = n := by rw [w16]; omega
theorem add_lt (a b : Nat) : add a b < 32768 := by
  have := lo_lt a; have := lo_lt b
  unfold add; split <;> omega
theorem f66 (w : Nat) (hw : w < 65536) : PureCall Try.prog 66 [u16 w] (i64 (lo w : Nat)) := by
  refine PureCall.run tab_ok mixed (by kernel_rfl) Try.func66 rfl rfl rfl ?_
  conv => whnf
  repeat (first | ((with_reducible first | apply ga | apply gb | apply gc | apply gd | apply ge | apply gf | apply gg | apply gh | apply gi | apply gj); conv => whnf) | (refine ⟨⟨rfl, rfl, nle rfl, nle rfl⟩, ?_⟩; conv => whnf) | fail)
  refine ⟨⟨by decide⟩, ?_⟩
  conv => whnf
  repeat (first | ((with_reducible first | apply ga | apply gb | apply gc | apply gd | apply ge | apply gf | apply gg | apply gh | apply gi | apply gj); conv => whnf) | (refine ⟨⟨rfl, rfl, nle rfl, nle rfl⟩, ?_⟩; conv => whnf) | fail)
  exact done_int _ _ _ rfl rfl (by rw [wi64 (by omega) (by omega), Int.tmod_eq_emod_of_nonneg (by omega)]; unfold lo; omega)
theorem f44 (a b : Nat) (ha : a < 65536) (hb : b < 65536) : PureCall Try.prog 44 [u16 a, u16 b] (u16 (add a b : Nat)) := by
  have h1 := lo_lt a
  have h2 := lo_lt b
  refine PureCall.run tab_ok mixed (by kernel_rfl) Try.func44 rfl rfl rfl ?_
  conv => whnf
  repeat (first | ((with_reducible first | apply ga | apply gb | apply gc | apply gd | apply ge | apply gf | apply gg | apply gh | apply gi | apply gj); conv => whnf) | (refine ⟨⟨rfl, rfl, nle rfl, nle rfl⟩, ?_⟩; conv => whnf) | fail)
  refine CallK.flat [] (f66 a ha) ⟨.same, trivial⟩ rfl ?_
  conv => whnf
  repeat (first | ((with_reducible first | apply ga | apply gb | apply gc | apply gd | apply ge | apply gf | apply gg | apply gh | apply gi | apply gj); conv => whnf) | (refine ⟨⟨rfl, rfl, nle rfl, nle rfl⟩, ?_⟩; conv => whnf) | fail)
  refine CallK.flat [] (f66 b hb) ⟨.same, trivial⟩ rfl ?_
  conv => whnf
  repeat (first | ((with_reducible first | apply ga | apply gb | apply gc | apply gd | apply ge | apply gf | apply gg | apply gh | apply gi | apply gj); conv => whnf) | (refine ⟨⟨rfl, rfl, nle rfl, nle rfl⟩, ?_⟩; conv => whnf) | fail)
  refine ⟨⟨by unfold inI64; omega⟩, ?_⟩
  conv => whnf
  repeat (first | ((with_reducible first | apply ga | apply gb | apply gc | apply gd | apply ge | apply gf | apply gg | apply gh | apply gi | apply gj); conv => whnf) | (refine ⟨⟨rfl, rfl, nle rfl, nle rfl⟩, ?_⟩; conv => whnf) | fail)
  refine ⟨fun hc => ?_, fun hc => ?_⟩ <;> replace hc := nm hc <;> (try rw [Int.toNat_zero] at hc) <;> (try rw [Int.toNat_one] at hc)
  · conv => whnf
    repeat (first | ((with_reducible first | apply ga | apply gb | apply gc | apply gd | apply ge | apply gf | apply gg | apply gh | apply gi | apply gj); conv => whnf) | (refine ⟨⟨rfl, rfl, nle rfl, nle rfl⟩, ?_⟩; conv => whnf) | fail)
    refine ⟨⟨by unfold inI64; omega⟩, ?_⟩
    conv => whnf
    repeat (first | ((with_reducible first | apply ga | apply gb | apply gc | apply gd | apply ge | apply gf | apply gg | apply gh | apply gi | apply gj); conv => whnf) | (refine ⟨⟨rfl, rfl, nle rfl, nle rfl⟩, ?_⟩; conv => whnf) | fail)
    exact done_int _ _ _ rfl rfl (by rw [wn16 (by omega) (by omega)]; unfold add; rw [if_pos (by omega)]; omega)
  · conv => whnf
    repeat (first | ((with_reducible first | apply ga | apply gb | apply gc | apply gd | apply ge | apply gf | apply gg | apply gh | apply gi | apply gj); conv => whnf) | (refine ⟨⟨rfl, rfl, nle rfl, nle rfl⟩, ?_⟩; conv => whnf) | fail)
    exact done_int _ _ _ rfl rfl (by rw [wn16 (by omega) (by omega)]; unfold add; rw [if_neg (by omega)]; omega)
theorem f45 (w : Nat) (hw : w < 65536) : PureCall Try.prog 45 [u16 w] (u16 (neg w : Nat)) := by
  have h1 := lo_lt w
  refine PureCall.run tab_ok mixed (by kernel_rfl) Try.func45 rfl rfl rfl ?_
  conv => whnf
  repeat (first | ((with_reducible first | apply ga | apply gb | apply gc | apply gd | apply ge | apply gf | apply gg | apply gh | apply gi | apply gj); conv => whnf) | (refine ⟨⟨rfl, rfl, nle rfl, nle rfl⟩, ?_⟩; conv => whnf) | fail)
  refine CallK.flat [] (f66 w hw) ⟨.same, trivial⟩ rfl ?_
  conv => whnf
  repeat (first | ((with_reducible first | apply ga | apply gb | apply gc | apply gd | apply ge | apply gf | apply gg | apply gh | apply gi | apply gj); conv => whnf) | (refine ⟨⟨rfl, rfl, nle rfl, nle rfl⟩, ?_⟩; conv => whnf) | fail)
  refine ⟨⟨by unfold inI64; omega⟩, ?_⟩
  conv => whnf
  repeat (first | ((with_reducible first | apply ga | apply gb | apply gc | apply gd | apply ge | apply gf | apply gg | apply gh | apply gi | apply gj); conv => whnf) | (refine ⟨⟨rfl, rfl, nle rfl, nle rfl⟩, ?_⟩; conv => whnf) | fail)
  exact done_int _ _ _ rfl rfl (by rw [wn16 (by omega) (by omega)]; unfold neg; omega)
theorem f46 (w : Nat) (hw : w < 65536) : PureCall Try.prog 46 [u16 w] (i64 (value w)) := by
  have h1 := lo_lt w
  refine PureCall.run tab_ok mixed (by kernel_rfl) Try.func46 rfl rfl rfl ?_
  conv => whnf
  repeat (first | ((with_reducible first | apply ga | apply gb | apply gc | apply gd | apply ge | apply gf | apply gg | apply gh | apply gi | apply gj); conv => whnf) | (refine ⟨⟨rfl, rfl, nle rfl, nle rfl⟩, ?_⟩; conv => whnf) | fail)
  refine CallK.flat [] (f66 w hw) ⟨.same, trivial⟩ rfl ?_
  conv => whnf
  repeat (first | ((with_reducible first | apply ga | apply gb | apply gc | apply gd | apply ge | apply gf | apply gg | apply gh | apply gi | apply gj); conv => whnf) | (refine ⟨⟨rfl, rfl, nle rfl, nle rfl⟩, ?_⟩; conv => whnf) | fail)
  refine ⟨fun hc => ?_, fun hc => ?_⟩ <;> replace hc := nm hc <;> (try rw [Int.toNat_zero] at hc) <;> (try rw [Int.toNat_one] at hc)
  · conv => whnf
    repeat (first | ((with_reducible first | apply ga | apply gb | apply gc | apply gd | apply ge | apply gf | apply gg | apply gh | apply gi | apply gj); conv => whnf) | (refine ⟨⟨rfl, rfl, nle rfl, nle rfl⟩, ?_⟩; conv => whnf) | fail)
    refine ⟨⟨by unfold inI64; omega⟩, ?_⟩
    conv => whnf
    repeat (first | ((with_reducible first | apply ga | apply gb | apply gc | apply gd | apply ge | apply gf | apply gg | apply gh | apply gi | apply gj); conv => whnf) | (refine ⟨⟨rfl, rfl, nle rfl, nle rfl⟩, ?_⟩; conv => whnf) | fail)
    exact done_int _ _ _ rfl rfl (by unfold value; rw [if_pos (by omega)])
  · conv => whnf
    repeat (first | ((with_reducible first | apply ga | apply gb | apply gc | apply gd | apply ge | apply gf | apply gg | apply gh | apply gi | apply gj); conv => whnf) | (refine ⟨⟨rfl, rfl, nle rfl, nle rfl⟩, ?_⟩; conv => whnf) | fail)
    exact done_int _ _ _ rfl rfl (by unfold value; rw [if_neg (by omega)])
theorem f40 (w : Nat) (hw : w < 65536) : PureCall Try.prog 40 [u16 w] (u16 (neg w : Nat)) := by
  refine PureCall.run tab_ok mixed (by kernel_rfl) Try.func40 rfl rfl rfl ?_
  conv => whnf
  repeat (first | ((with_reducible first | apply ga | apply gb | apply gc | apply gd | apply ge | apply gf | apply gg | apply gh | apply gi | apply gj); conv => whnf) | (refine ⟨⟨rfl, rfl, nle rfl, nle rfl⟩, ?_⟩; conv => whnf) | fail)
  exact done_int _ _ _ rfl rfl (negbits w hw)
theorem wn32 {n : Int} (h : 0 ≤ n) (h' : n < 4294967296) : IntKind.u32.wrap n = n := by rw [w32]; omega
theorem f58 (a b : Nat) (ha : a < 32768) (hb : b < 32768) : PureCall Try.prog 58 [u16 a, u16 b, u32 32767] (u16 (add a b : Nat)) := by
  have h1 : lo a = a := Nat.mod_eq_of_lt ha
  have h2 : lo b = b := Nat.mod_eq_of_lt hb
  have e : IntKind.u32.wrap (IntKind.u32.wrap (a : Int) + IntKind.u32.wrap (b : Int)) = (a : Int) + b := by rw [wn32 (n := (a : Int)) (by omega) (by omega), wn32 (n := (b : Int)) (by omega) (by omega), wn32 (by omega) (by omega)]
  refine PureCall.run tab_ok mixed (by kernel_rfl) Try.func58 rfl rfl rfl ?_
  conv => whnf
  repeat (first | ((with_reducible first | apply ga | apply gb | apply gc | apply gd | apply ge | apply gf | apply gg | apply gh | apply gi | apply gj); conv => whnf) | (refine ⟨⟨rfl, rfl, nle rfl, nle rfl⟩, ?_⟩; conv => whnf) | fail)
  rw [e]
  refine ⟨fun hc => ?_, fun hc => ?_⟩ <;> replace hc := nm hc <;> (try rw [Int.toNat_zero] at hc) <;> (try rw [Int.toNat_one] at hc)
  · conv => whnf
    repeat (first | ((with_reducible first | apply ga | apply gb | apply gc | apply gd | apply ge | apply gf | apply gg | apply gh | apply gi | apply gj); conv => whnf) | (refine ⟨⟨rfl, rfl, nle rfl, nle rfl⟩, ?_⟩; conv => whnf) | fail)
    exact done_int _ _ _ rfl rfl (by rw [wn32 (by omega) (by omega), wn16 (by omega) (by omega)]; unfold add; rw [h1, h2, if_pos (by omega)]; omega)
  · conv => whnf
    repeat (first | ((with_reducible first | apply ga | apply gb | apply gc | apply gd | apply ge | apply gf | apply gg | apply gh | apply gi | apply gj); conv => whnf) | (refine ⟨⟨rfl, rfl, nle rfl, nle rfl⟩, ?_⟩; conv => whnf) | fail)
    exact done_int _ _ _ rfl rfl (by rw [wn16 (by omega) (by omega)]; unfold add; rw [h1, h2, if_neg (by omega)]; omega)
theorem lo_lo (w : Nat) : lo (lo w) = lo w := Nat.mod_mod _ _
theorem add_lo (a b : Nat) : add (lo a) (lo b) = add a b := by unfold add; rw [lo_lo, lo_lo]
theorem f31 (a b : Nat) (ha : a < 65536) (hb : b < 65536) : PureCall Try.prog 31 [u16 a, u16 b] (u16 (add a b : Nat)) := by
  refine PureCall.run tab_ok mixed (by kernel_rfl) Try.func31 rfl rfl rfl ?_
  conv => whnf
  repeat (first | ((with_reducible first | apply ga | apply gb | apply gc | apply gd | apply ge | apply gf | apply gg | apply gh | apply gi | apply gj); conv => whnf) | (refine ⟨⟨rfl, rfl, nle rfl, nle rfl⟩, ?_⟩; conv => whnf) | fail)
  have := lo_lt a
  have := lo_lt b
  refine CallK.flat [] (f58 (lo a) (lo b) (lo_lt a) (lo_lt b)) ⟨VLe.int (and15n a ha),VLe.int (and15n b hb),.same, trivial⟩ rfl ?_
  conv => whnf
  repeat (first | ((with_reducible first | apply ga | apply gb | apply gc | apply gd | apply ge | apply gf | apply gg | apply gh | apply gi | apply gj); conv => whnf) | (refine ⟨⟨rfl, rfl, nle rfl, nle rfl⟩, ?_⟩; conv => whnf) | fail)
  rw [add_lo]
  exact done_int _ _ _ rfl rfl rfl
theorem and14 (w : Nat) (h : w < 32768) : (bitsOf .and .u16 (w : Int) 16384 != 0) = decide (16383 < w) := by
  have e := and_nat (k := .u16) rfl (a := w) (b := 16384) (by show w < 65536; omega) (by decide)
  rw [show (16384 : Int) = ((16384 : Nat) : Int) from rfl, e, show (16384 : Nat) = 2 ^ 14 from rfl]
  by_cases hc : 16383 < w
  · have hn : w &&& 2 ^ 14 ≠ 0 := fun e0 => by
      have h3 : (w &&& 2 ^ 14).testBit 14 = false := by rw [e0]; rfl
      have h2 : w / 2 ^ 14 % 2 = 1 := by omega
      rw [Nat.testBit_and, Nat.testBit_two_pow_self, Bool.and_true, Nat.testBit_eq_decide_div_mod_eq, h2] at h3
      exact absurd h3 (by decide)
    simp [hn, hc]
  · have hn : w &&& 2 ^ 14 = 0 := by
      apply Nat.eq_of_testBit_eq
      intro i
      rw [Nat.testBit_and, Nat.testBit_two_pow]
      by_cases hi : 14 = i
      · subst hi
        rw [Nat.testBit_lt_two_pow (by omega)]; simp
      · simp [hi]
    simp [hn, hc]
theorem f30 (w : Nat) (hw : w < 65536) : PureCall Try.prog 30 [u16 w] (i64 (value w)) := by
  have h1 := lo_lt w
  refine PureCall.run tab_ok mixed (by kernel_rfl) Try.func30 rfl rfl rfl ?_
  conv => whnf
  repeat (first | ((with_reducible first | apply ga | apply gb | apply gc | apply gd | apply ge | apply gf | apply gg | apply gh | apply gi | apply gj); conv => whnf) | (refine ⟨⟨rfl, rfl, nle rfl, nle rfl⟩, ?_⟩; conv => whnf) | fail)
  rw [and15n w hw, and14 _ h1]
  refine ⟨fun hc => ?_, fun hc => ?_⟩ <;> replace hc := nm hc <;> (try rw [Int.toNat_zero] at hc) <;> (try rw [Int.toNat_one] at hc)
  · have e : (0 : Int) - IntKind.i64.wrap (IntKind.u16.wrap (32767 - (lo w : Int))) = (lo w : Int) - 32767 := by rw [wn16 (by omega) (by omega), wi64 (by omega) (by omega)]; omega
    conv => whnf
    repeat (first | ((with_reducible first | apply ga | apply gb | apply gc | apply gd | apply ge | apply gf | apply gg | apply gh | apply gi | apply gj); conv => whnf) | (refine ⟨⟨rfl, rfl, nle rfl, nle rfl⟩, ?_⟩; conv => whnf) | fail)
    rw [e]
    refine ⟨⟨by unfold inI64; omega⟩, ?_⟩
    conv => whnf
    repeat (first | ((with_reducible first | apply ga | apply gb | apply gc | apply gd | apply ge | apply gf | apply gg | apply gh | apply gi | apply gj); conv => whnf) | (refine ⟨⟨rfl, rfl, nle rfl, nle rfl⟩, ?_⟩; conv => whnf) | fail)
    exact done_int _ _ _ rfl rfl (by unfold value; rw [if_pos hc])
  · conv => whnf
    repeat (first | ((with_reducible first | apply ga | apply gb | apply gc | apply gd | apply ge | apply gf | apply gg | apply gh | apply gi | apply gj); conv => whnf) | (refine ⟨⟨rfl, rfl, nle rfl, nle rfl⟩, ?_⟩; conv => whnf) | fail)
    exact done_int _ _ _ rfl rfl (by rw [wi64 (by omega) (by omega)]; unfold value; rw [if_neg (by omega)])
end Go.Proofs.Ytioccpodnkllfaa

namespace Go.Proofs.Ytioccpodnkllfaa
open Go Go.AM
attribute [local irreducible] AWP CallK PureCall SubS HeapCall
def wcell (n : Nat) (_ : Nat) : PV := .int .u16 n
def wordsP (ws : List Nat) : PV := sqA 39 1 wcell 0 ws
def WB (ws : List Nat) : Prop := ws.length < 2 ^ 46 ∧ ∀ w ∈ ws, w < 65536
def sumF : List Nat → Nat → Nat
  | [], s => s
  | w :: ws, s => sumF ws (add s w)
def sumW (ws : List Nat) : Nat := sumF ws 0
def validW (ws : List Nat) : Bool := ws.all fun w => decide (w ≤ 32767)
theorem valid_cons (w : Nat) (ws : List Nat) : validW (w :: ws) = (decide (w ≤ 32767) && validW ws) := rfl
def numB (n : Int) : Bool := decide (0 ≤ n) && decide (n ≤ 35)
theorem wB {ws : List Nat} (h : WB ws) {i : Nat} (hi : i < ws.length) : ws.getD i 0 < 65536 := by
  rw [List.getD_eq_getElem?_getD, List.getElem?_eq_getElem hi]; exact h.2 _ (List.getElem_mem hi)
theorem f21 (ws : List Nat) (h : WB ws) : PureCall Try.prog 21 [.pv (wordsP ws)] (u16 (sumW ws : Nat)) := by
  have hl := h.1
  refine PureCall.run tab_ok mixed (by kernel_rfl) Try.func21 rfl rfl rfl ?_
  conv => whnf
  repeat (first | ((with_reducible first | apply ga | apply gb | apply gc | apply gd | apply ge | apply gf | apply gg | apply gh | apply gi | apply gj); conv => whnf) | (refine ⟨⟨rfl, rfl, nle rfl, nle rfl⟩, ?_⟩; conv => whnf) | fail)
  refine ex_loop tab_ok mixed (fun x : Nat × Nat => (x.1 ≤ ws.length ∧ x.2 < 65536) ∧ sumW ws = sumF (ws.drop x.1) x.2) (fun x => mkSt 17 [(3, u16 x.2), (6, .pv (wordsP ws)), (7, i64 ws.length), (8, i64 x.1)] []) (fun x => ws.length - x.1) (0, 0) ⟨⟨Nat.zero_le _, by decide⟩, rfl⟩ (SubS.mk [] rfl ⟨⟨_, rfl, .same⟩, ⟨_, rfl, .same⟩, ⟨_, rfl, .same⟩, ⟨_, rfl, .same⟩, trivial⟩ trivial) ?_
  rintro ⟨i, s⟩ ⟨⟨hi, hs⟩, hI⟩
  dsimp only at hi hs hI ⊢
  conv => whnf
  repeat (first | ((with_reducible first | apply ga | apply gb | apply gc | apply gd | apply ge | apply gf | apply gg | apply gh | apply gi | apply gj); conv => whnf) | (refine ⟨⟨rfl, rfl, nle rfl, nle rfl⟩, ?_⟩; conv => whnf) | fail)
  refine ⟨fun hc => ?_, fun hc => ?_⟩ <;> replace hc := nm hc <;> (try rw [Int.toNat_zero] at hc) <;> (try rw [Int.toNat_one] at hc)
  · have hlt : i < ws.length := by omega
    have hw := wB h hlt
    rw [drop_getD (d := 0) hlt, sumF] at hI
    have ha := add_lt s (ws.getD i 0)
    conv => whnf
    repeat (first | ((with_reducible first | apply ga | apply gb | apply gc | apply gd | apply ge | apply gf | apply gg | apply gh | apply gi | apply gj); conv => whnf) | (refine ⟨⟨rfl, rfl, nle rfl, nle rfl⟩, ?_⟩; conv => whnf) | fail)
    refine ⟨⟨by omega, by omega, rfl⟩, ?_⟩
    conv => whnf
    repeat (first | ((with_reducible first | apply ga | apply gb | apply gc | apply gd | apply ge | apply gf | apply gg | apply gh | apply gi | apply gj); conv => whnf) | (refine ⟨⟨rfl, rfl, nle rfl, nle rfl⟩, ?_⟩; conv => whnf) | fail)
    refine ⟨⟨by decide⟩, ?_⟩
    conv => whnf
    repeat (first | ((with_reducible first | apply ga | apply gb | apply gc | apply gd | apply ge | apply gf | apply gg | apply gh | apply gi | apply gj); conv => whnf) | (refine ⟨⟨rfl, rfl, nle rfl, nle rfl⟩, ?_⟩; conv => whnf) | fail)
    refine CallK.flat [] (f31 s (ws.getD i 0) hs hw) ⟨.same, .same, trivial⟩ rfl ?_
    conv => whnf
    repeat (first | ((with_reducible first | apply ga | apply gb | apply gc | apply gd | apply ge | apply gf | apply gg | apply gh | apply gi | apply gj); conv => whnf) | (refine ⟨⟨rfl, rfl, nle rfl, nle rfl⟩, ?_⟩; conv => whnf) | fail)
    refine ⟨⟨by unfold inI64; omega⟩, ?_⟩
    conv => whnf
    repeat (first | ((with_reducible first | apply ga | apply gb | apply gc | apply gd | apply ge | apply gf | apply gg | apply gh | apply gi | apply gj); conv => whnf) | (refine ⟨⟨rfl, rfl, nle rfl, nle rfl⟩, ?_⟩; conv => whnf) | fail)
    exact ⟨(i + 1, add s (ws.getD i 0)), ⟨⟨hlt, by dsimp only; omega⟩, hI⟩, SubS.mk [] rfl ⟨⟨_, rfl, .same⟩, ⟨_, rfl, .same⟩, ⟨_, rfl, .same⟩, ⟨_, rfl, .same⟩, trivial⟩ trivial, by dsimp only; omega⟩
  · rw [List.drop_eq_nil_of_le (by omega), sumF] at hI
    conv => whnf
    repeat (first | ((with_reducible first | apply ga | apply gb | apply gc | apply gd | apply ge | apply gf | apply gg | apply gh | apply gi | apply gj); conv => whnf) | (refine ⟨⟨rfl, rfl, nle rfl, nle rfl⟩, ?_⟩; conv => whnf) | fail)
    rw [hI]
    exact done_int _ _ _ rfl rfl rfl
theorem f22 (ws : List Nat) (h : WB ws) : PureCall Try.prog 22 [.pv (wordsP ws)] (u16 (sumW ws : Nat)) := by
  have hl := h.1
  refine PureCall.run tab_ok mixed (by kernel_rfl) Try.func22 rfl rfl rfl ?_
  conv => whnf
  repeat (first | ((with_reducible first | apply ga | apply gb | apply gc | apply gd | apply ge | apply gf | apply gg | apply gh | apply gi | apply gj); conv => whnf) | (refine ⟨⟨rfl, rfl, nle rfl, nle rfl⟩, ?_⟩; conv => whnf) | fail)
  refine ex_loop tab_ok mixed (fun x : Nat × Nat => (x.1 ≤ ws.length ∧ x.2 < 65536) ∧ sumW ws = sumF (ws.drop x.1) x.2) (fun x => mkSt 18 [(0, .pv (wordsP ws)), (3, u16 x.2), (4, i64 x.1)] []) (fun x => ws.length - x.1) (0, 0) ⟨⟨Nat.zero_le _, by decide⟩, rfl⟩ (SubS.mk [] rfl ⟨⟨_, rfl, .same⟩, ⟨_, rfl, .same⟩, ⟨_, rfl, .same⟩, trivial⟩ trivial) ?_
  rintro ⟨i, s⟩ ⟨⟨hi, hs⟩, hI⟩
  dsimp only at hi hs hI ⊢
  conv => whnf
  repeat (first | ((with_reducible first | apply ga | apply gb | apply gc | apply gd | apply ge | apply gf | apply gg | apply gh | apply gi | apply gj); conv => whnf) | (refine ⟨⟨rfl, rfl, nle rfl, nle rfl⟩, ?_⟩; conv => whnf) | fail)
  refine ⟨fun hc => ?_, fun hc => ?_⟩ <;> replace hc := nm hc <;> (try rw [Int.toNat_zero] at hc) <;> (try rw [Int.toNat_one] at hc)
  · have hlt : i < ws.length := by omega
    have hw := wB h hlt
    rw [drop_getD (d := 0) hlt, sumF] at hI
    have ha := add_lt s (ws.getD i 0)
    conv => whnf
    repeat (first | ((with_reducible first | apply ga | apply gb | apply gc | apply gd | apply ge | apply gf | apply gg | apply gh | apply gi | apply gj); conv => whnf) | (refine ⟨⟨rfl, rfl, nle rfl, nle rfl⟩, ?_⟩; conv => whnf) | fail)
    refine ⟨⟨by omega, by omega, rfl⟩, ?_⟩
    conv => whnf
    repeat (first | ((with_reducible first | apply ga | apply gb | apply gc | apply gd | apply ge | apply gf | apply gg | apply gh | apply gi | apply gj); conv => whnf) | (refine ⟨⟨rfl, rfl, nle rfl, nle rfl⟩, ?_⟩; conv => whnf) | fail)
    refine ⟨⟨by decide⟩, ?_⟩
    conv => whnf
    repeat (first | ((with_reducible first | apply ga | apply gb | apply gc | apply gd | apply ge | apply gf | apply gg | apply gh | apply gi | apply gj); conv => whnf) | (refine ⟨⟨rfl, rfl, nle rfl, nle rfl⟩, ?_⟩; conv => whnf) | fail)
    refine CallK.flat [] (f44 s (ws.getD i 0) hs hw) ⟨.same, .same, trivial⟩ rfl ?_
    conv => whnf
    repeat (first | ((with_reducible first | apply ga | apply gb | apply gc | apply gd | apply ge | apply gf | apply gg | apply gh | apply gi | apply gj); conv => whnf) | (refine ⟨⟨rfl, rfl, nle rfl, nle rfl⟩, ?_⟩; conv => whnf) | fail)
    refine ⟨⟨by unfold inI64; omega⟩, ?_⟩
    conv => whnf
    repeat (first | ((with_reducible first | apply ga | apply gb | apply gc | apply gd | apply ge | apply gf | apply gg | apply gh | apply gi | apply gj); conv => whnf) | (refine ⟨⟨rfl, rfl, nle rfl, nle rfl⟩, ?_⟩; conv => whnf) | fail)
    exact ⟨(i + 1, add s (ws.getD i 0)), ⟨⟨hlt, by dsimp only; omega⟩, hI⟩, SubS.mk [] rfl ⟨⟨_, rfl, .same⟩, ⟨_, rfl, .same⟩, ⟨_, rfl, .same⟩, trivial⟩ trivial, by dsimp only; omega⟩
  · rw [List.drop_eq_nil_of_le (by omega), sumF] at hI
    conv => whnf
    repeat (first | ((with_reducible first | apply ga | apply gb | apply gc | apply gd | apply ge | apply gf | apply gg | apply gh | apply gi | apply gj); conv => whnf) | (refine ⟨⟨rfl, rfl, nle rfl, nle rfl⟩, ?_⟩; conv => whnf) | fail)
    rw [hI]
    exact done_int _ _ _ rfl rfl rfl
theorem f42 (ws : List Nat) (h : WB ws) : PureCall Try.prog 42 [.pv (wordsP ws)] (bb (validW ws)) := by
  have hl := h.1
  refine PureCall.run tab_ok mixed (by kernel_rfl) Try.func42 rfl rfl rfl ?_
  conv => whnf
  repeat (first | ((with_reducible first | apply ga | apply gb | apply gc | apply gd | apply ge | apply gf | apply gg | apply gh | apply gi | apply gj); conv => whnf) | (refine ⟨⟨rfl, rfl, nle rfl, nle rfl⟩, ?_⟩; conv => whnf) | fail)
  refine ex_loop tab_ok mixed (fun i : Nat => i ≤ ws.length ∧ validW ws = validW (ws.drop i)) (fun i => mkSt 15 [(0, .pv (wordsP ws)), (3, i64 i)] []) (fun i => ws.length - i) 0 ⟨Nat.zero_le _, rfl⟩ (SubS.mk [] rfl ⟨⟨_, rfl, .same⟩, ⟨_, rfl, .same⟩, trivial⟩ trivial) ?_
  rintro i ⟨hi, hI⟩
  conv => whnf
  repeat (first | ((with_reducible first | apply ga | apply gb | apply gc | apply gd | apply ge | apply gf | apply gg | apply gh | apply gi | apply gj); conv => whnf) | (refine ⟨⟨rfl, rfl, nle rfl, nle rfl⟩, ?_⟩; conv => whnf) | fail)
  refine ⟨fun hc => ?_, fun hc => ?_⟩ <;> replace hc := nm hc <;> (try rw [Int.toNat_zero] at hc) <;> (try rw [Int.toNat_one] at hc)
  · have hlt : i < ws.length := by omega
    rw [drop_getD (d := 0) hlt, valid_cons] at hI
    conv => whnf
    repeat (first | ((with_reducible first | apply ga | apply gb | apply gc | apply gd | apply ge | apply gf | apply gg | apply gh | apply gi | apply gj); conv => whnf) | (refine ⟨⟨rfl, rfl, nle rfl, nle rfl⟩, ?_⟩; conv => whnf) | fail)
    refine ⟨⟨by omega, by omega, rfl⟩, ?_⟩
    conv => whnf
    repeat (first | ((with_reducible first | apply ga | apply gb | apply gc | apply gd | apply ge | apply gf | apply gg | apply gh | apply gi | apply gj); conv => whnf) | (refine ⟨⟨rfl, rfl, nle rfl, nle rfl⟩, ?_⟩; conv => whnf) | fail)
    refine ⟨⟨by decide⟩, ?_⟩
    conv => whnf
    repeat (first | ((with_reducible first | apply ga | apply gb | apply gc | apply gd | apply ge | apply gf | apply gg | apply gh | apply gi | apply gj); conv => whnf) | (refine ⟨⟨rfl, rfl, nle rfl, nle rfl⟩, ?_⟩; conv => whnf) | fail)
    refine ⟨fun hd => ?_, fun hd => ?_⟩ <;> replace hd := nm hd <;> (try rw [Int.toNat_zero] at hd) <;> (try rw [Int.toNat_one] at hd)
    · have hd' : (32767 : Int) < ((ws.getD i 0 : Nat) : Int) := hd
      conv => whnf
      repeat (first | ((with_reducible first | apply ga | apply gb | apply gc | apply gd | apply ge | apply gf | apply gg | apply gh | apply gi | apply gj); conv => whnf) | (refine ⟨⟨rfl, rfl, nle rfl, nle rfl⟩, ?_⟩; conv => whnf) | fail)
      exact done_bool _ _ rfl rfl (by rw [hI, decide_eq_false (by omega)]; rfl)
    · have hd' : ((ws.getD i 0 : Nat) : Int) ≤ 32767 := hd
      conv => whnf
      repeat (first | ((with_reducible first | apply ga | apply gb | apply gc | apply gd | apply ge | apply gf | apply gg | apply gh | apply gi | apply gj); conv => whnf) | (refine ⟨⟨rfl, rfl, nle rfl, nle rfl⟩, ?_⟩; conv => whnf) | fail)
      refine ⟨⟨by unfold inI64; omega⟩, ?_⟩
      conv => whnf
      repeat (first | ((with_reducible first | apply ga | apply gb | apply gc | apply gd | apply ge | apply gf | apply gg | apply gh | apply gi | apply gj); conv => whnf) | (refine ⟨⟨rfl, rfl, nle rfl, nle rfl⟩, ?_⟩; conv => whnf) | fail)
      exact ⟨i + 1, ⟨hlt, by rw [hI, decide_eq_true (by omega)]; rfl⟩, SubS.mk [] rfl ⟨⟨_, rfl, .same⟩, ⟨_, rfl, .same⟩, trivial⟩ trivial, by omega⟩
  · rw [List.drop_eq_nil_of_le (by omega)] at hI
    conv => whnf
    repeat (first | ((with_reducible first | apply ga | apply gb | apply gc | apply gd | apply ge | apply gf | apply gg | apply gh | apply gi | apply gj); conv => whnf) | (refine ⟨⟨rfl, rfl, nle rfl, nle rfl⟩, ?_⟩; conv => whnf) | fail)
    exact done_bool _ _ rfl rfl (by rw [hI]; rfl)
theorem f37 (n : Int) : PureCall Try.prog 37 [i64 n] (bb (numB n)) := by
  refine PureCall.run tab_ok mixed (by kernel_rfl) Try.func37 rfl rfl rfl ?_
  conv => whnf
  repeat (first | ((with_reducible first | apply ga | apply gb | apply gc | apply gd | apply ge | apply gf | apply gg | apply gh | apply gi | apply gj); conv => whnf) | (refine ⟨⟨rfl, rfl, nle rfl, nle rfl⟩, ?_⟩; conv => whnf) | fail)
  refine ⟨fun hc => ?_, fun hc => ?_⟩ <;> replace hc := nm hc <;> (try rw [Int.toNat_zero] at hc) <;> (try rw [Int.toNat_one] at hc)
  · conv => whnf
    repeat (first | ((with_reducible first | apply ga | apply gb | apply gc | apply gd | apply ge | apply gf | apply gg | apply gh | apply gi | apply gj); conv => whnf) | (refine ⟨⟨rfl, rfl, nle rfl, nle rfl⟩, ?_⟩; conv => whnf) | fail)
    exact done_bool _ _ rfl rfl (by
      unfold numB
      rw [decide_eq_true hc]
      exact decide_eq_decide.mpr (by omega))
  · conv => whnf
    repeat (first | ((with_reducible first | apply ga | apply gb | apply gc | apply gd | apply ge | apply gf | apply gg | apply gh | apply gi | apply gj); conv => whnf) | (refine ⟨⟨rfl, rfl, nle rfl, nle rfl⟩, ?_⟩; conv => whnf) | fail)
    exact done_bool _ _ rfl rfl (by unfold numB; rw [decide_eq_false (by omega)]; rfl)
theorem f41 (n : Int) : PureCall Try.prog 41 [i64 n] (bb (numB n)) := by
  refine PureCall.run tab_ok mixed (by kernel_rfl) Try.func41 rfl rfl rfl ?_
  conv => whnf
  repeat (first | ((with_reducible first | apply ga | apply gb | apply gc | apply gd | apply ge | apply gf | apply gg | apply gh | apply gi | apply gj); conv => whnf) | (refine ⟨⟨rfl, rfl, nle rfl, nle rfl⟩, ?_⟩; conv => whnf) | fail)
  refine ⟨fun hc => ?_, fun hc => ?_⟩ <;> replace hc := nm hc <;> (try rw [Int.toNat_zero] at hc) <;> (try rw [Int.toNat_one] at hc)
  · conv => whnf
    repeat (first | ((with_reducible first | apply ga | apply gb | apply gc | apply gd | apply ge | apply gf | apply gg | apply gh | apply gi | apply gj); conv => whnf) | (refine ⟨⟨rfl, rfl, nle rfl, nle rfl⟩, ?_⟩; conv => whnf) | fail)
    exact done_bool _ _ rfl rfl (by unfold numB; rw [decide_eq_true hc]; rfl)
  · conv => whnf
    repeat (first | ((with_reducible first | apply ga | apply gb | apply gc | apply gd | apply ge | apply gf | apply gg | apply gh | apply gi | apply gj); conv => whnf) | (refine ⟨⟨rfl, rfl, nle rfl, nle rfl⟩, ?_⟩; conv => whnf) | fail)
    exact done_bool _ _ rfl rfl (by unfold numB; rw [decide_eq_false (by omega)]; rfl)
end Go.Proofs.Ytioccpodnkllfaa

namespace Go.Proofs.Ytioccpodnkllfaa
open Go Go.AM
attribute [local irreducible] AWP CallK PureCall SubS HeapCall
theorem f65 (w : Nat) (hw : w < 65536) : PureCall Try.prog 65 [u16 w] (bb (!decide (w ≤ 32767))) := by
  refine PureCall.run tab_ok mixed (by kernel_rfl) Try.func65 rfl rfl rfl ?_
  conv => whnf
  repeat (first | ((with_reducible first | apply ga | apply gb | apply gc | apply gd | apply ge | apply gf | apply gg | apply gh | apply gi | apply gj); conv => whnf) | (refine ⟨⟨rfl, rfl, nle rfl, nle rfl⟩, ?_⟩; conv => whnf) | fail)
  exact done_bool _ _ rfl rfl (by
    by_cases h : w ≤ 32767
    · rw [decide_eq_true h, decide_eq_false (by omega)]; rfl
    · rw [decide_eq_false h, decide_eq_true (by omega)]; rfl)
def gtF : AV := .func (.func 65) 0 (fun _ => .nilS) 0 fun _ => .nilS
theorem gtLe {H : Heap} {B : List Nat} {U : List (Nat × Nat)} : VLe H B U gtF gtF := .func _ _ _ _ _ _ _ (fun i h => absurd h (Nat.not_lt_zero i)) (fun i h => absurd h (Nat.not_lt_zero i))
def badF : List Nat → Nat → Int
  | [], _ => -1
  | w :: ws, i => if w ≤ 32767 then badF ws (i + 1) else i
theorem bad_valid : ∀ (ws : List Nat) (i : Nat), decide (0 ≤ badF ws i) = !validW ws
  | [], i => rfl
  | w :: ws, i => by
    rw [valid_cons, badF]
    by_cases h : w ≤ 32767
    · rw [if_pos h, bad_valid ws, decide_eq_true h]; rfl
    · rw [if_neg h, decide_eq_false h, decide_eq_true (by omega)]; rfl
theorem f73 (ws : List Nat) (h : WB ws) : PureCall Try.prog 73 [.pv (wordsP ws), gtF] (i64 (badF ws 0)) := by
  have hl := h.1
  refine PureCall.run tab_ok mixed (by kernel_rfl) Try.func73 rfl rfl rfl ?_
  conv => whnf
  repeat (first | ((with_reducible first | apply ga | apply gb | apply gc | apply gd | apply ge | apply gf | apply gg | apply gh | apply gi | apply gj); conv => whnf) | (refine ⟨⟨rfl, rfl, nle rfl, nle rfl⟩, ?_⟩; conv => whnf) | fail)
  refine ex_loop tab_ok mixed (fun i : Nat => i ≤ ws.length ∧ badF ws 0 = badF (ws.drop i) i) (fun i => mkSt 19 [(0, .pv (wordsP ws)), (1, gtF), (7, i64 ws.length), (8, i64 i)] []) (fun i => ws.length - i) 0 ⟨Nat.zero_le _, rfl⟩ (SubS.mk [] rfl ⟨⟨_, rfl, .same⟩, ⟨_, rfl, gtLe⟩, ⟨_, rfl, .same⟩, ⟨_, rfl, .same⟩, trivial⟩ trivial) ?_
  rintro i ⟨hi, hI⟩
  conv => whnf
  repeat (first | ((with_reducible first | apply ga | apply gb | apply gc | apply gd | apply ge | apply gf | apply gg | apply gh | apply gi | apply gj); conv => whnf) | (refine ⟨⟨rfl, rfl, nle rfl, nle rfl⟩, ?_⟩; conv => whnf) | fail)
  refine ⟨fun hc => ?_, fun hc => ?_⟩ <;> replace hc := nm hc <;> (try rw [Int.toNat_zero] at hc) <;> (try rw [Int.toNat_one] at hc)
  · have hlt : i < ws.length := by omega
    rw [drop_getD (d := 0) hlt, badF] at hI
    conv => whnf
    repeat (first | ((with_reducible first | apply ga | apply gb | apply gc | apply gd | apply ge | apply gf | apply gg | apply gh | apply gi | apply gj); conv => whnf) | (refine ⟨⟨rfl, rfl, nle rfl, nle rfl⟩, ?_⟩; conv => whnf) | fail)
    refine ⟨⟨by omega, by omega, rfl⟩, ?_⟩
    conv => whnf
    repeat (first | ((with_reducible first | apply ga | apply gb | apply gc | apply gd | apply ge | apply gf | apply gg | apply gh | apply gi | apply gj); conv => whnf) | (refine ⟨⟨rfl, rfl, nle rfl, nle rfl⟩, ?_⟩; conv => whnf) | fail)
    refine ⟨⟨by decide⟩, ?_⟩
    conv => whnf
    repeat (first | ((with_reducible first | apply ga | apply gb | apply gc | apply gd | apply ge | apply gf | apply gg | apply gh | apply gi | apply gj); conv => whnf) | (refine ⟨⟨rfl, rfl, nle rfl, nle rfl⟩, ?_⟩; conv => whnf) | fail)
    refine CallK.flat [] (f65 (ws.getD i 0) (wB h hlt)) ⟨.same, trivial⟩ rfl ?_
    conv => whnf
    repeat (first | ((with_reducible first | apply ga | apply gb | apply gc | apply gd | apply ge | apply gf | apply gg | apply gh | apply gi | apply gj); conv => whnf) | (refine ⟨⟨rfl, rfl, nle rfl, nle rfl⟩, ?_⟩; conv => whnf) | fail)
    refine ⟨fun hd => ?_, fun hd => ?_⟩ <;> replace hd := nm hd <;> (try rw [Int.toNat_zero] at hd) <;> (try rw [Int.toNat_one] at hd)
    · rw [if_neg (by simpa using hd)] at hI
      conv => whnf
      repeat (first | ((with_reducible first | apply ga | apply gb | apply gc | apply gd | apply ge | apply gf | apply gg | apply gh | apply gi | apply gj); conv => whnf) | (refine ⟨⟨rfl, rfl, nle rfl, nle rfl⟩, ?_⟩; conv => whnf) | fail)
      rw [hI]
      exact done_int _ _ _ rfl rfl rfl
    · rw [if_pos (by simpa using hd)] at hI
      conv => whnf
      repeat (first | ((with_reducible first | apply ga | apply gb | apply gc | apply gd | apply ge | apply gf | apply gg | apply gh | apply gi | apply gj); conv => whnf) | (refine ⟨⟨rfl, rfl, nle rfl, nle rfl⟩, ?_⟩; conv => whnf) | fail)
      refine ⟨⟨by unfold inI64; omega⟩, ?_⟩
      conv => whnf
      repeat (first | ((with_reducible first | apply ga | apply gb | apply gc | apply gd | apply ge | apply gf | apply gg | apply gh | apply gi | apply gj); conv => whnf) | (refine ⟨⟨rfl, rfl, nle rfl, nle rfl⟩, ?_⟩; conv => whnf) | fail)
      exact ⟨i + 1, ⟨hlt, hI⟩, SubS.mk [] rfl ⟨⟨_, rfl, .same⟩, ⟨_, rfl, gtLe⟩, ⟨_, rfl, .same⟩, ⟨_, rfl, .same⟩, trivial⟩ trivial, by omega⟩
  · rw [List.drop_eq_nil_of_le (by omega), badF] at hI
    conv => whnf
    repeat (first | ((with_reducible first | apply ga | apply gb | apply gc | apply gd | apply ge | apply gf | apply gg | apply gh | apply gi | apply gj); conv => whnf) | (refine ⟨⟨rfl, rfl, nle rfl, nle rfl⟩, ?_⟩; conv => whnf) | fail)
    rw [hI]
    exact done_int _ _ _ rfl rfl rfl
theorem f64 (ws : List Nat) (h : WB ws) : PureCall Try.prog 64 [.pv (wordsP ws), gtF] (bb (!validW ws)) := by
  refine PureCall.run tab_ok mixed (by kernel_rfl) Try.func64 rfl rfl rfl ?_
  conv => whnf
  repeat (first | ((with_reducible first | apply ga | apply gb | apply gc | apply gd | apply ge | apply gf | apply gg | apply gh | apply gi | apply gj); conv => whnf) | (refine ⟨⟨rfl, rfl, nle rfl, nle rfl⟩, ?_⟩; conv => whnf) | fail)
  refine CallK.flat [] (f73 ws h) ⟨.same,gtLe, trivial⟩ rfl ?_
  conv => whnf
  repeat (first | ((with_reducible first | apply ga | apply gb | apply gc | apply gd | apply ge | apply gf | apply gg | apply gh | apply gi | apply gj); conv => whnf) | (refine ⟨⟨rfl, rfl, nle rfl, nle rfl⟩, ?_⟩; conv => whnf) | fail)
  exact done_bool _ _ rfl rfl (bad_valid ws 0)
theorem f38 (ws : List Nat) (h : WB ws) : PureCall Try.prog 38 [.pv (wordsP ws)] (bb (validW ws)) := by
  refine PureCall.run tab_ok mixed (by kernel_rfl) Try.func38 rfl rfl rfl ?_
  conv => whnf
  repeat (first | ((with_reducible first | apply ga | apply gb | apply gc | apply gd | apply ge | apply gf | apply gg | apply gh | apply gi | apply gj); conv => whnf) | (refine ⟨⟨rfl, rfl, nle rfl, nle rfl⟩, ?_⟩; conv => whnf) | fail)
  refine CallK.flat [] (f64 ws h) ⟨.same,gtLe, trivial⟩ rfl ?_
  conv => whnf
  repeat (first | ((with_reducible first | apply ga | apply gb | apply gc | apply gd | apply ge | apply gf | apply gg | apply gh | apply gi | apply gj); conv => whnf) | (refine ⟨⟨rfl, rfl, nle rfl, nle rfl⟩, ?_⟩; conv => whnf) | fail)
  exact done_bool _ _ rfl rfl (Bool.not_not _)
def ofW (n : Int) : Nat := if n < 0 then (32767 + n).toNat else n.toNat
theorem ofW_lt {n : Int} (h : -16383 ≤ n) (h' : n ≤ 16383) : ofW n < 32768 := by unfold ofW; split <;> omega
theorem f39 (n : Int) (h : -16383 ≤ n) (h' : n ≤ 16383) : PureCall Try.prog 39 [i64 n] (tupV [u16 (ofW n : Nat), i64 0]) := by
  refine PureCall.run tab_ok mixed (by kernel_rfl) Try.func39 rfl rfl rfl ?_
  conv => whnf
  repeat (first | ((with_reducible first | apply ga | apply gb | apply gc | apply gd | apply ge | apply gf | apply gg | apply gh | apply gi | apply gj); conv => whnf) | (refine ⟨⟨rfl, rfl, nle rfl, nle rfl⟩, ?_⟩; conv => whnf) | fail)
  refine ⟨fun _ => ?_, fun h => absurd h (by simp; omega)⟩
  conv => whnf
  repeat (first | ((with_reducible first | apply ga | apply gb | apply gc | apply gd | apply ge | apply gf | apply gg | apply gh | apply gi | apply gj); conv => whnf) | (refine ⟨⟨rfl, rfl, nle rfl, nle rfl⟩, ?_⟩; conv => whnf) | fail)
  refine ⟨fun h => absurd h (by simp; omega), fun _ => ?_⟩
  conv => whnf
  repeat (first | ((with_reducible first | apply ga | apply gb | apply gc | apply gd | apply ge | apply gf | apply gg | apply gh | apply gi | apply gj); conv => whnf) | (refine ⟨⟨rfl, rfl, nle rfl, nle rfl⟩, ?_⟩; conv => whnf) | fail)
  refine ⟨fun hc => ?_, fun hc => ?_⟩ <;> replace hc := nm hc <;> (try rw [Int.toNat_zero] at hc) <;> (try rw [Int.toNat_one] at hc)
  · conv => whnf
    repeat (first | ((with_reducible first | apply ga | apply gb | apply gc | apply gd | apply ge | apply gf | apply gg | apply gh | apply gi | apply gj); conv => whnf) | (refine ⟨⟨rfl, rfl, nle rfl, nle rfl⟩, ?_⟩; conv => whnf) | fail)
    refine ⟨⟨by unfold inI64; omega⟩, ?_⟩
    conv => whnf
    repeat (first | ((with_reducible first | apply ga | apply gb | apply gc | apply gd | apply ge | apply gf | apply gg | apply gh | apply gi | apply gj); conv => whnf) | (refine ⟨⟨rfl, rfl, nle rfl, nle rfl⟩, ?_⟩; conv => whnf) | fail)
    refine CallK.flat [] (f40 (-n).toNat (by omega)) ⟨VLe.int (by rw [wn16 (by omega) (by omega)]; omega), trivial⟩ rfl ?_
    conv => whnf
    repeat (first | ((with_reducible first | apply ga | apply gb | apply gc | apply gd | apply ge | apply gf | apply gg | apply gh | apply gi | apply gj); conv => whnf) | (refine ⟨⟨rfl, rfl, nle rfl, nle rfl⟩, ?_⟩; conv => whnf) | fail)
    have e : neg (-n).toNat = ofW n := by unfold neg lo ofW; rw [if_pos hc]; omega
    rw [e]
    exact done_tup [u16 (ofW n : Nat), i64 0] [] rfl ⟨.same, .same, trivial⟩
  · conv => whnf
    repeat (first | ((with_reducible first | apply ga | apply gb | apply gc | apply gd | apply ge | apply gf | apply gg | apply gh | apply gi | apply gj); conv => whnf) | (refine ⟨⟨rfl, rfl, nle rfl, nle rfl⟩, ?_⟩; conv => whnf) | fail)
    exact done_tup [u16 _, i64 0] [] rfl ⟨VLe.int (by rw [wn16 (by omega) (by omega)]; unfold ofW; rw [if_neg (by omega)]; omega), .same, trivial⟩
theorem f43 (n : Int) (h : -16383 ≤ n) (h' : n ≤ 16383) : PureCall Try.prog 43 [i64 n] (tupV [u16 (ofW n : Nat), i64 0]) := by
  refine PureCall.run tab_ok mixed (by kernel_rfl) Try.func43 rfl rfl rfl ?_
  conv => whnf
  repeat (first | ((with_reducible first | apply ga | apply gb | apply gc | apply gd | apply ge | apply gf | apply gg | apply gh | apply gi | apply gj); conv => whnf) | (refine ⟨⟨rfl, rfl, nle rfl, nle rfl⟩, ?_⟩; conv => whnf) | fail)
  refine ⟨fun _ => ?_, fun h => absurd h (by simp; omega)⟩
  conv => whnf
  repeat (first | ((with_reducible first | apply ga | apply gb | apply gc | apply gd | apply ge | apply gf | apply gg | apply gh | apply gi | apply gj); conv => whnf) | (refine ⟨⟨rfl, rfl, nle rfl, nle rfl⟩, ?_⟩; conv => whnf) | fail)
  refine ⟨fun h => absurd h (by simp; omega), fun _ => ?_⟩
  conv => whnf
  repeat (first | ((with_reducible first | apply ga | apply gb | apply gc | apply gd | apply ge | apply gf | apply gg | apply gh | apply gi | apply gj); conv => whnf) | (refine ⟨⟨rfl, rfl, nle rfl, nle rfl⟩, ?_⟩; conv => whnf) | fail)
  refine ⟨fun hc => ?_, fun hc => ?_⟩ <;> replace hc := nm hc <;> (try rw [Int.toNat_zero] at hc) <;> (try rw [Int.toNat_one] at hc)
  · conv => whnf
    repeat (first | ((with_reducible first | apply ga | apply gb | apply gc | apply gd | apply ge | apply gf | apply gg | apply gh | apply gi | apply gj); conv => whnf) | (refine ⟨⟨rfl, rfl, nle rfl, nle rfl⟩, ?_⟩; conv => whnf) | fail)
    refine ⟨⟨by unfold inI64; omega⟩, ?_⟩
    conv => whnf
    repeat (first | ((with_reducible first | apply ga | apply gb | apply gc | apply gd | apply ge | apply gf | apply gg | apply gh | apply gi | apply gj); conv => whnf) | (refine ⟨⟨rfl, rfl, nle rfl, nle rfl⟩, ?_⟩; conv => whnf) | fail)
    exact done_tup [u16 _, i64 0] [] rfl ⟨VLe.int (by rw [wn16 (by omega) (by omega)]; unfold ofW; rw [if_pos (by omega)]; omega), .same, trivial⟩
  · conv => whnf
    repeat (first | ((with_reducible first | apply ga | apply gb | apply gc | apply gd | apply ge | apply gf | apply gg | apply gh | apply gi | apply gj); conv => whnf) | (refine ⟨⟨rfl, rfl, nle rfl, nle rfl⟩, ?_⟩; conv => whnf) | fail)
    exact done_tup [u16 _, i64 0] [] rfl ⟨VLe.int (by rw [wn16 (by omega) (by omega)]; unfold ofW; rw [if_neg (by omega)]; omega), .same, trivial⟩
end Go.Proofs.Ytioccpodnkllfaa

namespace Go.Proofs.Ytioccpodnkllfaa
open Go Go.AM
attribute [local irreducible] AWP CallK PureCall SubS HeapCall
structure BankR where
  num : Int
  ws : List Nat
def BankR.c (b : BankR) : Nat → AV := getL [i64 b.num, .pv (wordsP b.ws)]
def BankR.av (b : BankR) : AV := .agg 2 b.c
def BankR.p (b : BankR) (j : Nat) : PV :=
  match j with
  | 0 => .int .i64 b.num
  | _ => wordsP b.ws
def b0 : BankR := ⟨0, []⟩
def banksP (l : List BankR) : PV := sqA 35 2 BankR.p b0 l
def BankB (b : BankR) : Prop := inI64 b.num ∧ WB b.ws
def lenB (ws : List Nat) : Bool := decide ((ws.length : Int) ≤ 1024)
def sealedB (b : BankR) : Bool := numB b.num && (lenB b.ws && (validW b.ws && (value (sumW b.ws) == b.num)))
theorem sum_lt : ∀ (ws : List Nat) (s : Nat), s < 65536 → sumF ws s < 65536
  | [], _, h => h
  | w :: ws, s, _ => sum_lt ws _ (by have := add_lt s w; omega)
set_option maxHeartbeats 1000000 in
theorem f23 (b : BankR) (hB : BankB b) : PureCall Try.prog 23 [b.av] (bb (sealedB b)) := by
  obtain ⟨h1, h2⟩ := hB
  have hl := h2.1
  have c1 := f37 b.num
  have c2 := f38 b.ws h2
  have c3 := f21 b.ws h2
  have c4 := f30 (sumW b.ws) (sum_lt _ _ (by decide))
  unfold sealedB
  cases e1 : numB b.num with
  | false =>
    rw [e1] at c1
    refine PureCall.run tab_ok mixed (by kernel_rfl) Try.func23 rfl rfl rfl ?_
    refine ex_wall ?_
    conv => whnf
    repeat (first | ((with_reducible first | apply ga | apply gb | apply gc | apply gd | apply ge | apply gf | apply gg | apply gh | apply gi | apply gj); conv => whnf) | (refine ⟨⟨rfl, rfl, nle rfl, nle rfl⟩, ?_⟩; conv => whnf) | (refine AD.plain rfl ?_; conv => whnf) | fail)
    refine EXW.mk ?_
    repeat (refine ex_sq ?_)
    refine ex_drawn (by kernel_rfl) ?_
    repeat (first | ((with_reducible first | apply ga | apply gb | apply gc | apply gd | apply ge | apply gf | apply gg | apply gh | apply gi | apply gj); conv => whnf) | (refine ⟨⟨rfl, rfl, nle rfl, nle rfl⟩, ?_⟩; conv => whnf) | (refine AD.plain rfl ?_; conv => whnf) | fail)
    repeat (first | ((with_reducible first | apply ga | apply gb | apply gc | apply gd | apply ge | apply gf | apply gg | apply gh | apply gi | apply gj); conv => whnf) | (refine ⟨⟨rfl, rfl, nle rfl, nle rfl⟩, ?_⟩; conv => whnf) | (refine AD.plain rfl ?_; conv => whnf) | (refine AD.on rfl rfl rfl ?_; conv => whnf) | (refine AD.off rfl rfl rfl ?_; conv => whnf) | fail)
    refine ⟨_, [], ⟨_, c1, ⟨.same, trivial⟩, .inl rfl⟩, ?_⟩
    conv => whnf
    repeat (first | ((with_reducible first | apply ga | apply gb | apply gc | apply gd | apply ge | apply gf | apply gg | apply gh | apply gi | apply gj); conv => whnf) | (refine ⟨⟨rfl, rfl, nle rfl, nle rfl⟩, ?_⟩; conv => whnf) | (refine AD.plain rfl ?_; conv => whnf) | fail)
    repeat (first | ((with_reducible first | apply ga | apply gb | apply gc | apply gd | apply ge | apply gf | apply gg | apply gh | apply gi | apply gj); conv => whnf) | (refine ⟨⟨rfl, rfl, nle rfl, nle rfl⟩, ?_⟩; conv => whnf) | (refine AD.plain rfl ?_; conv => whnf) | (refine AD.on rfl rfl rfl ?_; conv => whnf) | (refine AD.off rfl rfl rfl ?_; conv => whnf) | fail)
    refine AD.nil ⟨by kernel_rfl, ?_⟩
    conv => whnf
    repeat (first | ((with_reducible first | apply ga | apply gb | apply gc | apply gd | apply ge | apply gf | apply gg | apply gh | apply gi | apply gj); conv => whnf) | (refine ⟨⟨rfl, rfl, nle rfl, nle rfl⟩, ?_⟩; conv => whnf) | (refine AD.plain rfl ?_; conv => whnf) | fail)
    exact done_bool _ _ rfl rfl rfl
  | true =>
    rw [e1] at c1
    cases e2 : lenB b.ws with
    | false =>
      have e2' : decide ((b.ws.length : Int) ≤ 1024) = false := e2
      refine PureCall.run tab_ok mixed (by kernel_rfl) Try.func23 rfl rfl rfl ?_
      refine ex_wall ?_
      conv => whnf
      repeat (first | ((with_reducible first | apply ga | apply gb | apply gc | apply gd | apply ge | apply gf | apply gg | apply gh | apply gi | apply gj); conv => whnf) | (refine ⟨⟨rfl, rfl, nle rfl, nle rfl⟩, ?_⟩; conv => whnf) | (refine AD.plain rfl ?_; conv => whnf) | fail)
      refine EXW.mk ?_
      repeat (refine ex_sq ?_)
      refine ex_drawn (by kernel_rfl) ?_
      repeat (first | ((with_reducible first | apply ga | apply gb | apply gc | apply gd | apply ge | apply gf | apply gg | apply gh | apply gi | apply gj); conv => whnf) | (refine ⟨⟨rfl, rfl, nle rfl, nle rfl⟩, ?_⟩; conv => whnf) | (refine AD.plain rfl ?_; conv => whnf) | fail)
      repeat (first | ((with_reducible first | apply ga | apply gb | apply gc | apply gd | apply ge | apply gf | apply gg | apply gh | apply gi | apply gj); conv => whnf) | (refine ⟨⟨rfl, rfl, nle rfl, nle rfl⟩, ?_⟩; conv => whnf) | (refine AD.plain rfl ?_; conv => whnf) | (refine AD.on rfl rfl rfl ?_; conv => whnf) | (refine AD.off rfl rfl rfl ?_; conv => whnf) | fail)
      refine ⟨_, [], ⟨_, c1, ⟨.same, trivial⟩, .inl rfl⟩, ?_⟩
      conv => whnf
      repeat (first | ((with_reducible first | apply ga | apply gb | apply gc | apply gd | apply ge | apply gf | apply gg | apply gh | apply gi | apply gj); conv => whnf) | (refine ⟨⟨rfl, rfl, nle rfl, nle rfl⟩, ?_⟩; conv => whnf) | (refine AD.plain rfl ?_; conv => whnf) | fail)
      repeat (first | ((with_reducible first | apply ga | apply gb | apply gc | apply gd | apply ge | apply gf | apply gg | apply gh | apply gi | apply gj); conv => whnf) | (refine ⟨⟨rfl, rfl, nle rfl, nle rfl⟩, ?_⟩; conv => whnf) | (refine AD.plain rfl ?_; conv => whnf) | (refine AD.on rfl rfl rfl ?_; conv => whnf) | (refine AD.off rfl rfl rfl ?_; conv => whnf) | fail)
      refine AD.test rfl rfl rfl ⟨fun h => absurd h (by rw [e2']; decide), fun _ => ?_⟩
      conv => whnf
      repeat (first | ((with_reducible first | apply ga | apply gb | apply gc | apply gd | apply ge | apply gf | apply gg | apply gh | apply gi | apply gj); conv => whnf) | (refine ⟨⟨rfl, rfl, nle rfl, nle rfl⟩, ?_⟩; conv => whnf) | (refine AD.plain rfl ?_; conv => whnf) | fail)
      repeat (first | ((with_reducible first | apply ga | apply gb | apply gc | apply gd | apply ge | apply gf | apply gg | apply gh | apply gi | apply gj); conv => whnf) | (refine ⟨⟨rfl, rfl, nle rfl, nle rfl⟩, ?_⟩; conv => whnf) | (refine AD.plain rfl ?_; conv => whnf) | (refine AD.on rfl rfl rfl ?_; conv => whnf) | (refine AD.off rfl rfl rfl ?_; conv => whnf) | fail)
      refine AD.nil ⟨by kernel_rfl, ?_⟩
      conv => whnf
      repeat (first | ((with_reducible first | apply ga | apply gb | apply gc | apply gd | apply ge | apply gf | apply gg | apply gh | apply gi | apply gj); conv => whnf) | (refine ⟨⟨rfl, rfl, nle rfl, nle rfl⟩, ?_⟩; conv => whnf) | (refine AD.plain rfl ?_; conv => whnf) | fail)
      exact done_bool _ _ rfl rfl rfl
    | true =>
      have e2' : decide ((b.ws.length : Int) ≤ 1024) = true := e2
      cases e3 : validW b.ws with
      | false =>
        rw [e3] at c2
        refine PureCall.run tab_ok mixed (by kernel_rfl) Try.func23 rfl rfl rfl ?_
        refine ex_wall ?_
        conv => whnf
        repeat (first | ((with_reducible first | apply ga | apply gb | apply gc | apply gd | apply ge | apply gf | apply gg | apply gh | apply gi | apply gj); conv => whnf) | (refine ⟨⟨rfl, rfl, nle rfl, nle rfl⟩, ?_⟩; conv => whnf) | (refine AD.plain rfl ?_; conv => whnf) | fail)
        refine EXW.mk ?_
        repeat (refine ex_sq ?_)
        refine ex_drawn (by kernel_rfl) ?_
        repeat (first | ((with_reducible first | apply ga | apply gb | apply gc | apply gd | apply ge | apply gf | apply gg | apply gh | apply gi | apply gj); conv => whnf) | (refine ⟨⟨rfl, rfl, nle rfl, nle rfl⟩, ?_⟩; conv => whnf) | (refine AD.plain rfl ?_; conv => whnf) | fail)
        repeat (first | ((with_reducible first | apply ga | apply gb | apply gc | apply gd | apply ge | apply gf | apply gg | apply gh | apply gi | apply gj); conv => whnf) | (refine ⟨⟨rfl, rfl, nle rfl, nle rfl⟩, ?_⟩; conv => whnf) | (refine AD.plain rfl ?_; conv => whnf) | (refine AD.on rfl rfl rfl ?_; conv => whnf) | (refine AD.off rfl rfl rfl ?_; conv => whnf) | fail)
        refine ⟨_, [], ⟨_, c1, ⟨.same, trivial⟩, .inl rfl⟩, ?_⟩
        conv => whnf
        repeat (first | ((with_reducible first | apply ga | apply gb | apply gc | apply gd | apply ge | apply gf | apply gg | apply gh | apply gi | apply gj); conv => whnf) | (refine ⟨⟨rfl, rfl, nle rfl, nle rfl⟩, ?_⟩; conv => whnf) | (refine AD.plain rfl ?_; conv => whnf) | fail)
        repeat (first | ((with_reducible first | apply ga | apply gb | apply gc | apply gd | apply ge | apply gf | apply gg | apply gh | apply gi | apply gj); conv => whnf) | (refine ⟨⟨rfl, rfl, nle rfl, nle rfl⟩, ?_⟩; conv => whnf) | (refine AD.plain rfl ?_; conv => whnf) | (refine AD.on rfl rfl rfl ?_; conv => whnf) | (refine AD.off rfl rfl rfl ?_; conv => whnf) | fail)
        refine AD.test rfl rfl rfl ⟨fun _ => ?_, fun h => absurd h (by rw [e2']; decide)⟩
        conv => whnf
        repeat (first | ((with_reducible first | apply ga | apply gb | apply gc | apply gd | apply ge | apply gf | apply gg | apply gh | apply gi | apply gj); conv => whnf) | (refine ⟨⟨rfl, rfl, nle rfl, nle rfl⟩, ?_⟩; conv => whnf) | (refine AD.plain rfl ?_; conv => whnf) | fail)
        repeat (first | ((with_reducible first | apply ga | apply gb | apply gc | apply gd | apply ge | apply gf | apply gg | apply gh | apply gi | apply gj); conv => whnf) | (refine ⟨⟨rfl, rfl, nle rfl, nle rfl⟩, ?_⟩; conv => whnf) | (refine AD.plain rfl ?_; conv => whnf) | (refine AD.on rfl rfl rfl ?_; conv => whnf) | (refine AD.off rfl rfl rfl ?_; conv => whnf) | fail)
        refine ⟨_, [], ⟨_, c2, ⟨.same, trivial⟩, .inl rfl⟩, ?_⟩
        conv => whnf
        repeat (first | ((with_reducible first | apply ga | apply gb | apply gc | apply gd | apply ge | apply gf | apply gg | apply gh | apply gi | apply gj); conv => whnf) | (refine ⟨⟨rfl, rfl, nle rfl, nle rfl⟩, ?_⟩; conv => whnf) | (refine AD.plain rfl ?_; conv => whnf) | fail)
        repeat (first | ((with_reducible first | apply ga | apply gb | apply gc | apply gd | apply ge | apply gf | apply gg | apply gh | apply gi | apply gj); conv => whnf) | (refine ⟨⟨rfl, rfl, nle rfl, nle rfl⟩, ?_⟩; conv => whnf) | (refine AD.plain rfl ?_; conv => whnf) | (refine AD.on rfl rfl rfl ?_; conv => whnf) | (refine AD.off rfl rfl rfl ?_; conv => whnf) | fail)
        refine AD.nil ⟨by kernel_rfl, ?_⟩
        conv => whnf
        repeat (first | ((with_reducible first | apply ga | apply gb | apply gc | apply gd | apply ge | apply gf | apply gg | apply gh | apply gi | apply gj); conv => whnf) | (refine ⟨⟨rfl, rfl, nle rfl, nle rfl⟩, ?_⟩; conv => whnf) | (refine AD.plain rfl ?_; conv => whnf) | fail)
        exact done_bool _ _ rfl rfl rfl
      | true =>
        rw [e3] at c2
        refine PureCall.run tab_ok mixed (by kernel_rfl) Try.func23 rfl rfl rfl ?_
        refine ex_wall ?_
        conv => whnf
        repeat (first | ((with_reducible first | apply ga | apply gb | apply gc | apply gd | apply ge | apply gf | apply gg | apply gh | apply gi | apply gj); conv => whnf) | (refine ⟨⟨rfl, rfl, nle rfl, nle rfl⟩, ?_⟩; conv => whnf) | (refine AD.plain rfl ?_; conv => whnf) | fail)
        refine EXW.mk ?_
        repeat (refine ex_sq ?_)
        refine ex_drawn (by kernel_rfl) ?_
        repeat (first | ((with_reducible first | apply ga | apply gb | apply gc | apply gd | apply ge | apply gf | apply gg | apply gh | apply gi | apply gj); conv => whnf) | (refine ⟨⟨rfl, rfl, nle rfl, nle rfl⟩, ?_⟩; conv => whnf) | (refine AD.plain rfl ?_; conv => whnf) | fail)
        repeat (first | ((with_reducible first | apply ga | apply gb | apply gc | apply gd | apply ge | apply gf | apply gg | apply gh | apply gi | apply gj); conv => whnf) | (refine ⟨⟨rfl, rfl, nle rfl, nle rfl⟩, ?_⟩; conv => whnf) | (refine AD.plain rfl ?_; conv => whnf) | (refine AD.on rfl rfl rfl ?_; conv => whnf) | (refine AD.off rfl rfl rfl ?_; conv => whnf) | fail)
        refine ⟨_, [], ⟨_, c1, ⟨.same, trivial⟩, .inl rfl⟩, ?_⟩
        conv => whnf
        repeat (first | ((with_reducible first | apply ga | apply gb | apply gc | apply gd | apply ge | apply gf | apply gg | apply gh | apply gi | apply gj); conv => whnf) | (refine ⟨⟨rfl, rfl, nle rfl, nle rfl⟩, ?_⟩; conv => whnf) | (refine AD.plain rfl ?_; conv => whnf) | fail)
        repeat (first | ((with_reducible first | apply ga | apply gb | apply gc | apply gd | apply ge | apply gf | apply gg | apply gh | apply gi | apply gj); conv => whnf) | (refine ⟨⟨rfl, rfl, nle rfl, nle rfl⟩, ?_⟩; conv => whnf) | (refine AD.plain rfl ?_; conv => whnf) | (refine AD.on rfl rfl rfl ?_; conv => whnf) | (refine AD.off rfl rfl rfl ?_; conv => whnf) | fail)
        refine AD.test rfl rfl rfl ⟨fun _ => ?_, fun h => absurd h (by rw [e2']; decide)⟩
        conv => whnf
        repeat (first | ((with_reducible first | apply ga | apply gb | apply gc | apply gd | apply ge | apply gf | apply gg | apply gh | apply gi | apply gj); conv => whnf) | (refine ⟨⟨rfl, rfl, nle rfl, nle rfl⟩, ?_⟩; conv => whnf) | (refine AD.plain rfl ?_; conv => whnf) | fail)
        repeat (first | ((with_reducible first | apply ga | apply gb | apply gc | apply gd | apply ge | apply gf | apply gg | apply gh | apply gi | apply gj); conv => whnf) | (refine ⟨⟨rfl, rfl, nle rfl, nle rfl⟩, ?_⟩; conv => whnf) | (refine AD.plain rfl ?_; conv => whnf) | (refine AD.on rfl rfl rfl ?_; conv => whnf) | (refine AD.off rfl rfl rfl ?_; conv => whnf) | fail)
        refine ⟨_, [], ⟨_, c2, ⟨.same, trivial⟩, .inl rfl⟩, ?_⟩
        conv => whnf
        repeat (first | ((with_reducible first | apply ga | apply gb | apply gc | apply gd | apply ge | apply gf | apply gg | apply gh | apply gi | apply gj); conv => whnf) | (refine ⟨⟨rfl, rfl, nle rfl, nle rfl⟩, ?_⟩; conv => whnf) | (refine AD.plain rfl ?_; conv => whnf) | fail)
        repeat (first | ((with_reducible first | apply ga | apply gb | apply gc | apply gd | apply ge | apply gf | apply gg | apply gh | apply gi | apply gj); conv => whnf) | (refine ⟨⟨rfl, rfl, nle rfl, nle rfl⟩, ?_⟩; conv => whnf) | (refine AD.plain rfl ?_; conv => whnf) | (refine AD.on rfl rfl rfl ?_; conv => whnf) | (refine AD.off rfl rfl rfl ?_; conv => whnf) | fail)
        refine ⟨_, [], ⟨_, c3, ⟨.same, trivial⟩, .inl rfl⟩, ?_⟩
        conv => whnf
        repeat (first | ((with_reducible first | apply ga | apply gb | apply gc | apply gd | apply ge | apply gf | apply gg | apply gh | apply gi | apply gj); conv => whnf) | (refine ⟨⟨rfl, rfl, nle rfl, nle rfl⟩, ?_⟩; conv => whnf) | (refine AD.plain rfl ?_; conv => whnf) | fail)
        repeat (first | ((with_reducible first | apply ga | apply gb | apply gc | apply gd | apply ge | apply gf | apply gg | apply gh | apply gi | apply gj); conv => whnf) | (refine ⟨⟨rfl, rfl, nle rfl, nle rfl⟩, ?_⟩; conv => whnf) | (refine AD.plain rfl ?_; conv => whnf) | (refine AD.on rfl rfl rfl ?_; conv => whnf) | (refine AD.off rfl rfl rfl ?_; conv => whnf) | fail)
        refine ⟨_, [], ⟨_, c4, ⟨.same, trivial⟩, .inl rfl⟩, ?_⟩
        conv => whnf
        repeat (first | ((with_reducible first | apply ga | apply gb | apply gc | apply gd | apply ge | apply gf | apply gg | apply gh | apply gi | apply gj); conv => whnf) | (refine ⟨⟨rfl, rfl, nle rfl, nle rfl⟩, ?_⟩; conv => whnf) | (refine AD.plain rfl ?_; conv => whnf) | fail)
        repeat (first | ((with_reducible first | apply ga | apply gb | apply gc | apply gd | apply ge | apply gf | apply gg | apply gh | apply gi | apply gj); conv => whnf) | (refine ⟨⟨rfl, rfl, nle rfl, nle rfl⟩, ?_⟩; conv => whnf) | (refine AD.plain rfl ?_; conv => whnf) | (refine AD.on rfl rfl rfl ?_; conv => whnf) | (refine AD.off rfl rfl rfl ?_; conv => whnf) | fail)
        refine AD.nil ⟨by kernel_rfl, ?_⟩
        conv => whnf
        repeat (first | ((with_reducible first | apply ga | apply gb | apply gc | apply gd | apply ge | apply gf | apply gg | apply gh | apply gi | apply gj); conv => whnf) | (refine ⟨⟨rfl, rfl, nle rfl, nle rfl⟩, ?_⟩; conv => whnf) | (refine AD.plain rfl ?_; conv => whnf) | fail)
        exact done_bool _ _ rfl rfl rfl
set_option maxHeartbeats 1000000 in
theorem f24 (b : BankR) (hB : BankB b) : PureCall Try.prog 24 [b.av] (bb (sealedB b)) := by
  obtain ⟨h1, h2⟩ := hB
  have hl := h2.1
  have c1 := f41 b.num
  have c2 := f42 b.ws h2
  have c3 := f22 b.ws h2
  have c4 := f46 (sumW b.ws) (sum_lt _ _ (by decide))
  unfold sealedB
  cases e1 : numB b.num with
  | false =>
    rw [e1] at c1
    refine PureCall.run tab_ok mixed (by kernel_rfl) Try.func24 rfl rfl rfl ?_
    refine ex_wall ?_
    conv => whnf
    repeat (first | ((with_reducible first | apply ga | apply gb | apply gc | apply gd | apply ge | apply gf | apply gg | apply gh | apply gi | apply gj); conv => whnf) | (refine ⟨⟨rfl, rfl, nle rfl, nle rfl⟩, ?_⟩; conv => whnf) | (refine AD.plain rfl ?_; conv => whnf) | fail)
    refine EXW.mk ?_
    repeat (refine ex_sq ?_)
    refine ex_drawn (by kernel_rfl) ?_
    repeat (first | ((with_reducible first | apply ga | apply gb | apply gc | apply gd | apply ge | apply gf | apply gg | apply gh | apply gi | apply gj); conv => whnf) | (refine ⟨⟨rfl, rfl, nle rfl, nle rfl⟩, ?_⟩; conv => whnf) | (refine AD.plain rfl ?_; conv => whnf) | fail)
    repeat (first | ((with_reducible first | apply ga | apply gb | apply gc | apply gd | apply ge | apply gf | apply gg | apply gh | apply gi | apply gj); conv => whnf) | (refine ⟨⟨rfl, rfl, nle rfl, nle rfl⟩, ?_⟩; conv => whnf) | (refine AD.plain rfl ?_; conv => whnf) | (refine AD.on rfl rfl rfl ?_; conv => whnf) | (refine AD.off rfl rfl rfl ?_; conv => whnf) | fail)
    refine ⟨_, [], ⟨_, c1, ⟨.same, trivial⟩, .inl rfl⟩, ?_⟩
    conv => whnf
    repeat (first | ((with_reducible first | apply ga | apply gb | apply gc | apply gd | apply ge | apply gf | apply gg | apply gh | apply gi | apply gj); conv => whnf) | (refine ⟨⟨rfl, rfl, nle rfl, nle rfl⟩, ?_⟩; conv => whnf) | (refine AD.plain rfl ?_; conv => whnf) | fail)
    repeat (first | ((with_reducible first | apply ga | apply gb | apply gc | apply gd | apply ge | apply gf | apply gg | apply gh | apply gi | apply gj); conv => whnf) | (refine ⟨⟨rfl, rfl, nle rfl, nle rfl⟩, ?_⟩; conv => whnf) | (refine AD.plain rfl ?_; conv => whnf) | (refine AD.on rfl rfl rfl ?_; conv => whnf) | (refine AD.off rfl rfl rfl ?_; conv => whnf) | fail)
    refine AD.nil ⟨by kernel_rfl, ?_⟩
    conv => whnf
    repeat (first | ((with_reducible first | apply ga | apply gb | apply gc | apply gd | apply ge | apply gf | apply gg | apply gh | apply gi | apply gj); conv => whnf) | (refine ⟨⟨rfl, rfl, nle rfl, nle rfl⟩, ?_⟩; conv => whnf) | (refine AD.plain rfl ?_; conv => whnf) | fail)
    exact done_bool _ _ rfl rfl rfl
  | true =>
    rw [e1] at c1
    cases e2 : lenB b.ws with
    | false =>
      have e2' : decide ((b.ws.length : Int) ≤ 1024) = false := e2
      refine PureCall.run tab_ok mixed (by kernel_rfl) Try.func24 rfl rfl rfl ?_
      refine ex_wall ?_
      conv => whnf
      repeat (first | ((with_reducible first | apply ga | apply gb | apply gc | apply gd | apply ge | apply gf | apply gg | apply gh | apply gi | apply gj); conv => whnf) | (refine ⟨⟨rfl, rfl, nle rfl, nle rfl⟩, ?_⟩; conv => whnf) | (refine AD.plain rfl ?_; conv => whnf) | fail)
      refine EXW.mk ?_
      repeat (refine ex_sq ?_)
      refine ex_drawn (by kernel_rfl) ?_
      repeat (first | ((with_reducible first | apply ga | apply gb | apply gc | apply gd | apply ge | apply gf | apply gg | apply gh | apply gi | apply gj); conv => whnf) | (refine ⟨⟨rfl, rfl, nle rfl, nle rfl⟩, ?_⟩; conv => whnf) | (refine AD.plain rfl ?_; conv => whnf) | fail)
      repeat (first | ((with_reducible first | apply ga | apply gb | apply gc | apply gd | apply ge | apply gf | apply gg | apply gh | apply gi | apply gj); conv => whnf) | (refine ⟨⟨rfl, rfl, nle rfl, nle rfl⟩, ?_⟩; conv => whnf) | (refine AD.plain rfl ?_; conv => whnf) | (refine AD.on rfl rfl rfl ?_; conv => whnf) | (refine AD.off rfl rfl rfl ?_; conv => whnf) | fail)
      refine ⟨_, [], ⟨_, c1, ⟨.same, trivial⟩, .inl rfl⟩, ?_⟩
      conv => whnf
      repeat (first | ((with_reducible first | apply ga | apply gb | apply gc | apply gd | apply ge | apply gf | apply gg | apply gh | apply gi | apply gj); conv => whnf) | (refine ⟨⟨rfl, rfl, nle rfl, nle rfl⟩, ?_⟩; conv => whnf) | (refine AD.plain rfl ?_; conv => whnf) | fail)
      repeat (first | ((with_reducible first | apply ga | apply gb | apply gc | apply gd | apply ge | apply gf | apply gg | apply gh | apply gi | apply gj); conv => whnf) | (refine ⟨⟨rfl, rfl, nle rfl, nle rfl⟩, ?_⟩; conv => whnf) | (refine AD.plain rfl ?_; conv => whnf) | (refine AD.on rfl rfl rfl ?_; conv => whnf) | (refine AD.off rfl rfl rfl ?_; conv => whnf) | fail)
      refine AD.test rfl rfl rfl ⟨fun h => absurd h (by rw [e2']; decide), fun _ => ?_⟩
      conv => whnf
      repeat (first | ((with_reducible first | apply ga | apply gb | apply gc | apply gd | apply ge | apply gf | apply gg | apply gh | apply gi | apply gj); conv => whnf) | (refine ⟨⟨rfl, rfl, nle rfl, nle rfl⟩, ?_⟩; conv => whnf) | (refine AD.plain rfl ?_; conv => whnf) | fail)
      repeat (first | ((with_reducible first | apply ga | apply gb | apply gc | apply gd | apply ge | apply gf | apply gg | apply gh | apply gi | apply gj); conv => whnf) | (refine ⟨⟨rfl, rfl, nle rfl, nle rfl⟩, ?_⟩; conv => whnf) | (refine AD.plain rfl ?_; conv => whnf) | (refine AD.on rfl rfl rfl ?_; conv => whnf) | (refine AD.off rfl rfl rfl ?_; conv => whnf) | fail)
      refine AD.nil ⟨by kernel_rfl, ?_⟩
      conv => whnf
      repeat (first | ((with_reducible first | apply ga | apply gb | apply gc | apply gd | apply ge | apply gf | apply gg | apply gh | apply gi | apply gj); conv => whnf) | (refine ⟨⟨rfl, rfl, nle rfl, nle rfl⟩, ?_⟩; conv => whnf) | (refine AD.plain rfl ?_; conv => whnf) | fail)
      exact done_bool _ _ rfl rfl rfl
    | true =>
      have e2' : decide ((b.ws.length : Int) ≤ 1024) = true := e2
      cases e3 : validW b.ws with
      | false =>
        rw [e3] at c2
        refine PureCall.run tab_ok mixed (by kernel_rfl) Try.func24 rfl rfl rfl ?_
        refine ex_wall ?_
        conv => whnf
        repeat (first | ((with_reducible first | apply ga | apply gb | apply gc | apply gd | apply ge | apply gf | apply gg | apply gh | apply gi | apply gj); conv => whnf) | (refine ⟨⟨rfl, rfl, nle rfl, nle rfl⟩, ?_⟩; conv => whnf) | (refine AD.plain rfl ?_; conv => whnf) | fail)
        refine EXW.mk ?_
        repeat (refine ex_sq ?_)
        refine ex_drawn (by kernel_rfl) ?_
        repeat (first | ((with_reducible first | apply ga | apply gb | apply gc | apply gd | apply ge | apply gf | apply gg | apply gh | apply gi | apply gj); conv => whnf) | (refine ⟨⟨rfl, rfl, nle rfl, nle rfl⟩, ?_⟩; conv => whnf) | (refine AD.plain rfl ?_; conv => whnf) | fail)
        repeat (first | ((with_reducible first | apply ga | apply gb | apply gc | apply gd | apply ge | apply gf | apply gg | apply gh | apply gi | apply gj); conv => whnf) | (refine ⟨⟨rfl, rfl, nle rfl, nle rfl⟩, ?_⟩; conv => whnf) | (refine AD.plain rfl ?_; conv => whnf) | (refine AD.on rfl rfl rfl ?_; conv => whnf) | (refine AD.off rfl rfl rfl ?_; conv => whnf) | fail)
        refine ⟨_, [], ⟨_, c1, ⟨.same, trivial⟩, .inl rfl⟩, ?_⟩
        conv => whnf
        repeat (first | ((with_reducible first | apply ga | apply gb | apply gc | apply gd | apply ge | apply gf | apply gg | apply gh | apply gi | apply gj); conv => whnf) | (refine ⟨⟨rfl, rfl, nle rfl, nle rfl⟩, ?_⟩; conv => whnf) | (refine AD.plain rfl ?_; conv => whnf) | fail)
        repeat (first | ((with_reducible first | apply ga | apply gb | apply gc | apply gd | apply ge | apply gf | apply gg | apply gh | apply gi | apply gj); conv => whnf) | (refine ⟨⟨rfl, rfl, nle rfl, nle rfl⟩, ?_⟩; conv => whnf) | (refine AD.plain rfl ?_; conv => whnf) | (refine AD.on rfl rfl rfl ?_; conv => whnf) | (refine AD.off rfl rfl rfl ?_; conv => whnf) | fail)
        refine AD.test rfl rfl rfl ⟨fun _ => ?_, fun h => absurd h (by rw [e2']; decide)⟩
        conv => whnf
        repeat (first | ((with_reducible first | apply ga | apply gb | apply gc | apply gd | apply ge | apply gf | apply gg | apply gh | apply gi | apply gj); conv => whnf) | (refine ⟨⟨rfl, rfl, nle rfl, nle rfl⟩, ?_⟩; conv => whnf) | (refine AD.plain rfl ?_; conv => whnf) | fail)
        repeat (first | ((with_reducible first | apply ga | apply gb | apply gc | apply gd | apply ge | apply gf | apply gg | apply gh | apply gi | apply gj); conv => whnf) | (refine ⟨⟨rfl, rfl, nle rfl, nle rfl⟩, ?_⟩; conv => whnf) | (refine AD.plain rfl ?_; conv => whnf) | (refine AD.on rfl rfl rfl ?_; conv => whnf) | (refine AD.off rfl rfl rfl ?_; conv => whnf) | fail)
        refine ⟨_, [], ⟨_, c2, ⟨.same, trivial⟩, .inl rfl⟩, ?_⟩
        conv => whnf
        repeat (first | ((with_reducible first | apply ga | apply gb | apply gc | apply gd | apply ge | apply gf | apply gg | apply gh | apply gi | apply gj); conv => whnf) | (refine ⟨⟨rfl, rfl, nle rfl, nle rfl⟩, ?_⟩; conv => whnf) | (refine AD.plain rfl ?_; conv => whnf) | fail)
        repeat (first | ((with_reducible first | apply ga | apply gb | apply gc | apply gd | apply ge | apply gf | apply gg | apply gh | apply gi | apply gj); conv => whnf) | (refine ⟨⟨rfl, rfl, nle rfl, nle rfl⟩, ?_⟩; conv => whnf) | (refine AD.plain rfl ?_; conv => whnf) | (refine AD.on rfl rfl rfl ?_; conv => whnf) | (refine AD.off rfl rfl rfl ?_; conv => whnf) | fail)
        refine AD.nil ⟨by kernel_rfl, ?_⟩
        conv => whnf
        repeat (first | ((with_reducible first | apply ga | apply gb | apply gc | apply gd | apply ge | apply gf | apply gg | apply gh | apply gi | apply gj); conv => whnf) | (refine ⟨⟨rfl, rfl, nle rfl, nle rfl⟩, ?_⟩; conv => whnf) | (refine AD.plain rfl ?_; conv => whnf) | fail)
        exact done_bool _ _ rfl rfl rfl
      | true =>
        rw [e3] at c2
        refine PureCall.run tab_ok mixed (by kernel_rfl) Try.func24 rfl rfl rfl ?_
        refine ex_wall ?_
        conv => whnf
        repeat (first | ((with_reducible first | apply ga | apply gb | apply gc | apply gd | apply ge | apply gf | apply gg | apply gh | apply gi | apply gj); conv => whnf) | (refine ⟨⟨rfl, rfl, nle rfl, nle rfl⟩, ?_⟩; conv => whnf) | (refine AD.plain rfl ?_; conv => whnf) | fail)
        refine EXW.mk ?_
        repeat (refine ex_sq ?_)
        refine ex_drawn (by kernel_rfl) ?_
        repeat (first | ((with_reducible first | apply ga | apply gb | apply gc | apply gd | apply ge | apply gf | apply gg | apply gh | apply gi | apply gj); conv => whnf) | (refine ⟨⟨rfl, rfl, nle rfl, nle rfl⟩, ?_⟩; conv => whnf) | (refine AD.plain rfl ?_; conv => whnf) | fail)
        repeat (first | ((with_reducible first | apply ga | apply gb | apply gc | apply gd | apply ge | apply gf | apply gg | apply gh | apply gi | apply gj); conv => whnf) | (refine ⟨⟨rfl, rfl, nle rfl, nle rfl⟩, ?_⟩; conv => whnf) | (refine AD.plain rfl ?_; conv => whnf) | (refine AD.on rfl rfl rfl ?_; conv => whnf) | (refine AD.off rfl rfl rfl ?_; conv => whnf) | fail)
        refine ⟨_, [], ⟨_, c1, ⟨.same, trivial⟩, .inl rfl⟩, ?_⟩
        conv => whnf
        repeat (first | ((with_reducible first | apply ga | apply gb | apply gc | apply gd | apply ge | apply gf | apply gg | apply gh | apply gi | apply gj); conv => whnf) | (refine ⟨⟨rfl, rfl, nle rfl, nle rfl⟩, ?_⟩; conv => whnf) | (refine AD.plain rfl ?_; conv => whnf) | fail)
        repeat (first | ((with_reducible first | apply ga | apply gb | apply gc | apply gd | apply ge | apply gf | apply gg | apply gh | apply gi | apply gj); conv => whnf) | (refine ⟨⟨rfl, rfl, nle rfl, nle rfl⟩, ?_⟩; conv => whnf) | (refine AD.plain rfl ?_; conv => whnf) | (refine AD.on rfl rfl rfl ?_; conv => whnf) | (refine AD.off rfl rfl rfl ?_; conv => whnf) | fail)
        refine AD.test rfl rfl rfl ⟨fun _ => ?_, fun h => absurd h (by rw [e2']; decide)⟩
        conv => whnf
        repeat (first | ((with_reducible first | apply ga | apply gb | apply gc | apply gd | apply ge | apply gf | apply gg | apply gh | apply gi | apply gj); conv => whnf) | (refine ⟨⟨rfl, rfl, nle rfl, nle rfl⟩, ?_⟩; conv => whnf) | (refine AD.plain rfl ?_; conv => whnf) | fail)
        repeat (first | ((with_reducible first | apply ga | apply gb | apply gc | apply gd | apply ge | apply gf | apply gg | apply gh | apply gi | apply gj); conv => whnf) | (refine ⟨⟨rfl, rfl, nle rfl, nle rfl⟩, ?_⟩; conv => whnf) | (refine AD.plain rfl ?_; conv => whnf) | (refine AD.on rfl rfl rfl ?_; conv => whnf) | (refine AD.off rfl rfl rfl ?_; conv => whnf) | fail)
        refine ⟨_, [], ⟨_, c2, ⟨.same, trivial⟩, .inl rfl⟩, ?_⟩
        conv => whnf
        repeat (first | ((with_reducible first | apply ga | apply gb | apply gc | apply gd | apply ge | apply gf | apply gg | apply gh | apply gi | apply gj); conv => whnf) | (refine ⟨⟨rfl, rfl, nle rfl, nle rfl⟩, ?_⟩; conv => whnf) | (refine AD.plain rfl ?_; conv => whnf) | fail)
        repeat (first | ((with_reducible first | apply ga | apply gb | apply gc | apply gd | apply ge | apply gf | apply gg | apply gh | apply gi | apply gj); conv => whnf) | (refine ⟨⟨rfl, rfl, nle rfl, nle rfl⟩, ?_⟩; conv => whnf) | (refine AD.plain rfl ?_; conv => whnf) | (refine AD.on rfl rfl rfl ?_; conv => whnf) | (refine AD.off rfl rfl rfl ?_; conv => whnf) | fail)
        refine ⟨_, [], ⟨_, c3, ⟨.same, trivial⟩, .inl rfl⟩, ?_⟩
        conv => whnf
        repeat (first | ((with_reducible first | apply ga | apply gb | apply gc | apply gd | apply ge | apply gf | apply gg | apply gh | apply gi | apply gj); conv => whnf) | (refine ⟨⟨rfl, rfl, nle rfl, nle rfl⟩, ?_⟩; conv => whnf) | (refine AD.plain rfl ?_; conv => whnf) | fail)
        repeat (first | ((with_reducible first | apply ga | apply gb | apply gc | apply gd | apply ge | apply gf | apply gg | apply gh | apply gi | apply gj); conv => whnf) | (refine ⟨⟨rfl, rfl, nle rfl, nle rfl⟩, ?_⟩; conv => whnf) | (refine AD.plain rfl ?_; conv => whnf) | (refine AD.on rfl rfl rfl ?_; conv => whnf) | (refine AD.off rfl rfl rfl ?_; conv => whnf) | fail)
        refine ⟨_, [], ⟨_, c4, ⟨.same, trivial⟩, .inl rfl⟩, ?_⟩
        conv => whnf
        repeat (first | ((with_reducible first | apply ga | apply gb | apply gc | apply gd | apply ge | apply gf | apply gg | apply gh | apply gi | apply gj); conv => whnf) | (refine ⟨⟨rfl, rfl, nle rfl, nle rfl⟩, ?_⟩; conv => whnf) | (refine AD.plain rfl ?_; conv => whnf) | fail)
        repeat (first | ((with_reducible first | apply ga | apply gb | apply gc | apply gd | apply ge | apply gf | apply gg | apply gh | apply gi | apply gj); conv => whnf) | (refine ⟨⟨rfl, rfl, nle rfl, nle rfl⟩, ?_⟩; conv => whnf) | (refine AD.plain rfl ?_; conv => whnf) | (refine AD.on rfl rfl rfl ?_; conv => whnf) | (refine AD.off rfl rfl rfl ?_; conv => whnf) | fail)
        refine AD.nil ⟨by kernel_rfl, ?_⟩
        conv => whnf
        repeat (first | ((with_reducible first | apply ga | apply gb | apply gc | apply gd | apply ge | apply gf | apply gg | apply gh | apply gi | apply gj); conv => whnf) | (refine ⟨⟨rfl, rfl, nle rfl, nle rfl⟩, ?_⟩; conv => whnf) | (refine AD.plain rfl ?_; conv => whnf) | fail)
        exact done_bool _ _ rfl rfl rfl
end Go.Proofs.Ytioccpodnkllfaa

namespace Go.Proofs.Ytioccpodnkllfaa
open Go Go.AM
attribute [local irreducible] AWP CallK PureCall SubS HeapCall
theorem f36 (ws : List Nat) (h : WB ws) : PureCall Try.prog 36 [.pv (wordsP ws), .pv (wordsP ws)] (bb true) := by
  have hl := h.1
  refine PureCall.run tab_ok mixed (by kernel_rfl) Try.func36 rfl rfl rfl ?_
  conv => whnf
  repeat (first | ((with_reducible first | apply ga | apply gb | apply gc | apply gd | apply ge | apply gf | apply gg | apply gh | apply gi | apply gj); conv => whnf) | (refine ⟨⟨rfl, rfl, nle rfl, nle rfl⟩, ?_⟩; conv => whnf) | (refine AD.plain rfl ?_; conv => whnf) | fail)
  refine ex_loop tab_ok mixed (fun i : Nat => i ≤ ws.length) (fun i => mkSt 32 [(0, .pv (wordsP ws)), (1, .pv (wordsP ws)), (5, i64 i)] []) (fun i => ws.length - i) 0 (Nat.zero_le _) (SubS.mk [] rfl ⟨⟨_, rfl, .same⟩, ⟨_, rfl, .same⟩, ⟨_, rfl, .same⟩, trivial⟩ trivial) ?_
  intro i hi
  conv => whnf
  repeat (first | ((with_reducible first | apply ga | apply gb | apply gc | apply gd | apply ge | apply gf | apply gg | apply gh | apply gi | apply gj); conv => whnf) | (refine ⟨⟨rfl, rfl, nle rfl, nle rfl⟩, ?_⟩; conv => whnf) | (refine AD.plain rfl ?_; conv => whnf) | fail)
  refine ⟨fun hc => ?_, fun hc => ?_⟩ <;> replace hc := nm hc <;> (try rw [Int.toNat_zero] at hc) <;> (try rw [Int.toNat_one] at hc)
  · have hlt : i < ws.length := by omega
    conv => whnf
    repeat (first | ((with_reducible first | apply ga | apply gb | apply gc | apply gd | apply ge | apply gf | apply gg | apply gh | apply gi | apply gj); conv => whnf) | (refine ⟨⟨rfl, rfl, nle rfl, nle rfl⟩, ?_⟩; conv => whnf) | (refine AD.plain rfl ?_; conv => whnf) | fail)
    refine ⟨fun _ => ?_, fun h => absurd h (by simp; omega)⟩
    conv => whnf
    repeat (first | ((with_reducible first | apply ga | apply gb | apply gc | apply gd | apply ge | apply gf | apply gg | apply gh | apply gi | apply gj); conv => whnf) | (refine ⟨⟨rfl, rfl, nle rfl, nle rfl⟩, ?_⟩; conv => whnf) | (refine AD.plain rfl ?_; conv => whnf) | fail)
    refine ⟨⟨by omega, by omega, rfl⟩, ?_⟩
    conv => whnf
    repeat (first | ((with_reducible first | apply ga | apply gb | apply gc | apply gd | apply ge | apply gf | apply gg | apply gh | apply gi | apply gj); conv => whnf) | (refine ⟨⟨rfl, rfl, nle rfl, nle rfl⟩, ?_⟩; conv => whnf) | (refine AD.plain rfl ?_; conv => whnf) | fail)
    refine ⟨⟨by decide⟩, ?_⟩
    conv => whnf
    repeat (first | ((with_reducible first | apply ga | apply gb | apply gc | apply gd | apply ge | apply gf | apply gg | apply gh | apply gi | apply gj); conv => whnf) | (refine ⟨⟨rfl, rfl, nle rfl, nle rfl⟩, ?_⟩; conv => whnf) | (refine AD.plain rfl ?_; conv => whnf) | fail)
    refine ⟨⟨by omega, by omega, rfl⟩, ?_⟩
    conv => whnf
    repeat (first | ((with_reducible first | apply ga | apply gb | apply gc | apply gd | apply ge | apply gf | apply gg | apply gh | apply gi | apply gj); conv => whnf) | (refine ⟨⟨rfl, rfl, nle rfl, nle rfl⟩, ?_⟩; conv => whnf) | (refine AD.plain rfl ?_; conv => whnf) | fail)
    refine ⟨⟨by decide⟩, ?_⟩
    conv => whnf
    repeat (first | ((with_reducible first | apply ga | apply gb | apply gc | apply gd | apply ge | apply gf | apply gg | apply gh | apply gi | apply gj); conv => whnf) | (refine ⟨⟨rfl, rfl, nle rfl, nle rfl⟩, ?_⟩; conv => whnf) | (refine AD.plain rfl ?_; conv => whnf) | fail)
    refine ⟨rfl, ?_⟩
    conv => whnf
    repeat (first | ((with_reducible first | apply ga | apply gb | apply gc | apply gd | apply ge | apply gf | apply gg | apply gh | apply gi | apply gj); conv => whnf) | (refine ⟨⟨rfl, rfl, nle rfl, nle rfl⟩, ?_⟩; conv => whnf) | (refine AD.plain rfl ?_; conv => whnf) | fail)
    refine ⟨fun h => absurd h (by simp), fun _ => ?_⟩
    conv => whnf
    repeat (first | ((with_reducible first | apply ga | apply gb | apply gc | apply gd | apply ge | apply gf | apply gg | apply gh | apply gi | apply gj); conv => whnf) | (refine ⟨⟨rfl, rfl, nle rfl, nle rfl⟩, ?_⟩; conv => whnf) | (refine AD.plain rfl ?_; conv => whnf) | fail)
    refine ⟨⟨by unfold inI64; omega⟩, ?_⟩
    conv => whnf
    repeat (first | ((with_reducible first | apply ga | apply gb | apply gc | apply gd | apply ge | apply gf | apply gg | apply gh | apply gi | apply gj); conv => whnf) | (refine ⟨⟨rfl, rfl, nle rfl, nle rfl⟩, ?_⟩; conv => whnf) | (refine AD.plain rfl ?_; conv => whnf) | fail)
    exact ⟨i + 1, by omega, SubS.mk [] rfl ⟨⟨_, rfl, .same⟩, ⟨_, rfl, .same⟩, ⟨_, rfl, .same⟩, trivial⟩ trivial, by omega⟩
  · conv => whnf
    repeat (first | ((with_reducible first | apply ga | apply gb | apply gc | apply gd | apply ge | apply gf | apply gg | apply gh | apply gi | apply gj); conv => whnf) | (refine ⟨⟨rfl, rfl, nle rfl, nle rfl⟩, ?_⟩; conv => whnf) | (refine AD.plain rfl ?_; conv => whnf) | fail)
    exact done_bool _ _ rfl rfl (by simp)
def BsB (l : List BankR) : Prop := l.length < 2 ^ 46 ∧ ∀ b ∈ l, BankB b
theorem bsB {l : List BankR} (h : BsB l) {i : Nat} (hi : i < l.length) : BankB (l.getD i b0) := by
  rw [List.getD_eq_getElem?_getD, List.getElem?_eq_getElem hi]; exact h.2 _ (List.getElem_mem hi)
theorem f18 (l : List BankR) (h : BsB l) : PureCall Try.prog 18 [.pv (banksP l), .pv (banksP l)] (bb true) := by
  have hl := h.1
  refine PureCall.run tab_ok mixed (by kernel_rfl) Try.func18 rfl rfl rfl ?_
  conv => whnf
  repeat (first | ((with_reducible first | apply ga | apply gb | apply gc | apply gd | apply ge | apply gf | apply gg | apply gh | apply gi | apply gj); conv => whnf) | (refine ⟨⟨rfl, rfl, nle rfl, nle rfl⟩, ?_⟩; conv => whnf) | (refine AD.plain rfl ?_; conv => whnf) | fail)
  refine ⟨fun h => absurd h (by simp), fun _ => ?_⟩
  conv => whnf
  repeat (first | ((with_reducible first | apply ga | apply gb | apply gc | apply gd | apply ge | apply gf | apply gg | apply gh | apply gi | apply gj); conv => whnf) | (refine ⟨⟨rfl, rfl, nle rfl, nle rfl⟩, ?_⟩; conv => whnf) | (refine AD.plain rfl ?_; conv => whnf) | fail)
  refine ex_loop tab_ok mixed (fun i : Nat => i ≤ l.length) (fun i => mkSt 42 [(0, .pv (banksP l)), (1, .pv (banksP l)), (5, i64 i)] []) (fun i => l.length - i) 0 (Nat.zero_le _) (SubS.mk [] rfl ⟨⟨_, rfl, .same⟩, ⟨_, rfl, .same⟩, ⟨_, rfl, .same⟩, trivial⟩ trivial) ?_
  intro i hi
  conv => whnf
  repeat (first | ((with_reducible first | apply ga | apply gb | apply gc | apply gd | apply ge | apply gf | apply gg | apply gh | apply gi | apply gj); conv => whnf) | (refine ⟨⟨rfl, rfl, nle rfl, nle rfl⟩, ?_⟩; conv => whnf) | (refine AD.plain rfl ?_; conv => whnf) | fail)
  refine ⟨fun hc => ?_, fun hc => ?_⟩ <;> replace hc := nm hc <;> (try rw [Int.toNat_zero] at hc) <;> (try rw [Int.toNat_one] at hc)
  · have hlt : i < l.length := by omega
    have hb := bsB h hlt
    refine ex_skipS (ex_sq (ex_bl (ex_sq (ex_drawn (by kernel_rfl) ?_))))
    repeat (first | ((with_reducible first | apply ga | apply gb | apply gc | apply gd | apply ge | apply gf | apply gg | apply gh | apply gi | apply gj); conv => whnf) | (refine ⟨⟨rfl, rfl, nle rfl, nle rfl⟩, ?_⟩; conv => whnf) | (refine AD.plain rfl ?_; conv => whnf) | (refine AD.on rfl rfl rfl ?_; conv => whnf) | (refine AD.off rfl rfl rfl ?_; conv => whnf) | fail)
    refine ⟨⟨by omega, by omega, rfl⟩, ?_⟩
    conv => whnf
    repeat (first | ((with_reducible first | apply ga | apply gb | apply gc | apply gd | apply ge | apply gf | apply gg | apply gh | apply gi | apply gj); conv => whnf) | (refine ⟨⟨rfl, rfl, nle rfl, nle rfl⟩, ?_⟩; conv => whnf) | (refine AD.plain rfl ?_; conv => whnf) | fail)
    refine ⟨⟨by decide⟩, ?_⟩
    conv => whnf
    repeat (first | ((with_reducible first | apply ga | apply gb | apply gc | apply gd | apply ge | apply gf | apply gg | apply gh | apply gi | apply gj); conv => whnf) | (refine ⟨⟨rfl, rfl, nle rfl, nle rfl⟩, ?_⟩; conv => whnf) | (refine AD.plain rfl ?_; conv => whnf) | fail)
    refine ⟨⟨by decide⟩, ?_⟩
    conv => whnf
    repeat (first | ((with_reducible first | apply ga | apply gb | apply gc | apply gd | apply ge | apply gf | apply gg | apply gh | apply gi | apply gj); conv => whnf) | (refine ⟨⟨rfl, rfl, nle rfl, nle rfl⟩, ?_⟩; conv => whnf) | (refine AD.plain rfl ?_; conv => whnf) | fail)
    refine ⟨⟨by omega, by omega, rfl⟩, ?_⟩
    conv => whnf
    repeat (first | ((with_reducible first | apply ga | apply gb | apply gc | apply gd | apply ge | apply gf | apply gg | apply gh | apply gi | apply gj); conv => whnf) | (refine ⟨⟨rfl, rfl, nle rfl, nle rfl⟩, ?_⟩; conv => whnf) | (refine AD.plain rfl ?_; conv => whnf) | fail)
    refine ⟨⟨by decide⟩, ?_⟩
    conv => whnf
    repeat (first | ((with_reducible first | apply ga | apply gb | apply gc | apply gd | apply ge | apply gf | apply gg | apply gh | apply gi | apply gj); conv => whnf) | (refine ⟨⟨rfl, rfl, nle rfl, nle rfl⟩, ?_⟩; conv => whnf) | (refine AD.plain rfl ?_; conv => whnf) | fail)
    refine ⟨⟨by decide⟩, ?_⟩
    conv => whnf
    repeat (first | ((with_reducible first | apply ga | apply gb | apply gc | apply gd | apply ge | apply gf | apply gg | apply gh | apply gi | apply gj); conv => whnf) | (refine ⟨⟨rfl, rfl, nle rfl, nle rfl⟩, ?_⟩; conv => whnf) | (refine AD.plain rfl ?_; conv => whnf) | fail)
    refine AD.test rfl rfl rfl ⟨fun _ => ?_, fun h => absurd h (by simp)⟩
    conv => whnf
    repeat (first | ((with_reducible first | apply ga | apply gb | apply gc | apply gd | apply ge | apply gf | apply gg | apply gh | apply gi | apply gj); conv => whnf) | (refine ⟨⟨rfl, rfl, nle rfl, nle rfl⟩, ?_⟩; conv => whnf) | (refine AD.plain rfl ?_; conv => whnf) | fail)
    repeat (first | ((with_reducible first | apply ga | apply gb | apply gc | apply gd | apply ge | apply gf | apply gg | apply gh | apply gi | apply gj); conv => whnf) | (refine ⟨⟨rfl, rfl, nle rfl, nle rfl⟩, ?_⟩; conv => whnf) | (refine AD.plain rfl ?_; conv => whnf) | (refine AD.on rfl rfl rfl ?_; conv => whnf) | (refine AD.off rfl rfl rfl ?_; conv => whnf) | fail)
    refine ⟨⟨by omega, by omega, rfl⟩, ?_⟩
    conv => whnf
    repeat (first | ((with_reducible first | apply ga | apply gb | apply gc | apply gd | apply ge | apply gf | apply gg | apply gh | apply gi | apply gj); conv => whnf) | (refine ⟨⟨rfl, rfl, nle rfl, nle rfl⟩, ?_⟩; conv => whnf) | (refine AD.plain rfl ?_; conv => whnf) | fail)
    repeat (first | ((with_reducible first | apply ga | apply gb | apply gc | apply gd | apply ge | apply gf | apply gg | apply gh | apply gi | apply gj); conv => whnf) | (refine ⟨⟨rfl, rfl, nle rfl, nle rfl⟩, ?_⟩; conv => whnf) | (refine AD.plain rfl ?_; conv => whnf) | (refine AD.on rfl rfl rfl ?_; conv => whnf) | (refine AD.off rfl rfl rfl ?_; conv => whnf) | fail)
    refine ⟨⟨by decide⟩, ?_⟩
    conv => whnf
    repeat (first | ((with_reducible first | apply ga | apply gb | apply gc | apply gd | apply ge | apply gf | apply gg | apply gh | apply gi | apply gj); conv => whnf) | (refine ⟨⟨rfl, rfl, nle rfl, nle rfl⟩, ?_⟩; conv => whnf) | (refine AD.plain rfl ?_; conv => whnf) | fail)
    repeat (first | ((with_reducible first | apply ga | apply gb | apply gc | apply gd | apply ge | apply gf | apply gg | apply gh | apply gi | apply gj); conv => whnf) | (refine ⟨⟨rfl, rfl, nle rfl, nle rfl⟩, ?_⟩; conv => whnf) | (refine AD.plain rfl ?_; conv => whnf) | (refine AD.on rfl rfl rfl ?_; conv => whnf) | (refine AD.off rfl rfl rfl ?_; conv => whnf) | fail)
    refine ⟨⟨by decide⟩, ?_⟩
    conv => whnf
    repeat (first | ((with_reducible first | apply ga | apply gb | apply gc | apply gd | apply ge | apply gf | apply gg | apply gh | apply gi | apply gj); conv => whnf) | (refine ⟨⟨rfl, rfl, nle rfl, nle rfl⟩, ?_⟩; conv => whnf) | (refine AD.plain rfl ?_; conv => whnf) | fail)
    repeat (first | ((with_reducible first | apply ga | apply gb | apply gc | apply gd | apply ge | apply gf | apply gg | apply gh | apply gi | apply gj); conv => whnf) | (refine ⟨⟨rfl, rfl, nle rfl, nle rfl⟩, ?_⟩; conv => whnf) | (refine AD.plain rfl ?_; conv => whnf) | (refine AD.on rfl rfl rfl ?_; conv => whnf) | (refine AD.off rfl rfl rfl ?_; conv => whnf) | fail)
    refine ⟨⟨by omega, by omega, rfl⟩, ?_⟩
    conv => whnf
    repeat (first | ((with_reducible first | apply ga | apply gb | apply gc | apply gd | apply ge | apply gf | apply gg | apply gh | apply gi | apply gj); conv => whnf) | (refine ⟨⟨rfl, rfl, nle rfl, nle rfl⟩, ?_⟩; conv => whnf) | (refine AD.plain rfl ?_; conv => whnf) | fail)
    repeat (first | ((with_reducible first | apply ga | apply gb | apply gc | apply gd | apply ge | apply gf | apply gg | apply gh | apply gi | apply gj); conv => whnf) | (refine ⟨⟨rfl, rfl, nle rfl, nle rfl⟩, ?_⟩; conv => whnf) | (refine AD.plain rfl ?_; conv => whnf) | (refine AD.on rfl rfl rfl ?_; conv => whnf) | (refine AD.off rfl rfl rfl ?_; conv => whnf) | fail)
    refine ⟨⟨by decide⟩, ?_⟩
    conv => whnf
    repeat (first | ((with_reducible first | apply ga | apply gb | apply gc | apply gd | apply ge | apply gf | apply gg | apply gh | apply gi | apply gj); conv => whnf) | (refine ⟨⟨rfl, rfl, nle rfl, nle rfl⟩, ?_⟩; conv => whnf) | (refine AD.plain rfl ?_; conv => whnf) | fail)
    repeat (first | ((with_reducible first | apply ga | apply gb | apply gc | apply gd | apply ge | apply gf | apply gg | apply gh | apply gi | apply gj); conv => whnf) | (refine ⟨⟨rfl, rfl, nle rfl, nle rfl⟩, ?_⟩; conv => whnf) | (refine AD.plain rfl ?_; conv => whnf) | (refine AD.on rfl rfl rfl ?_; conv => whnf) | (refine AD.off rfl rfl rfl ?_; conv => whnf) | fail)
    refine ⟨⟨by decide⟩, ?_⟩
    conv => whnf
    repeat (first | ((with_reducible first | apply ga | apply gb | apply gc | apply gd | apply ge | apply gf | apply gg | apply gh | apply gi | apply gj); conv => whnf) | (refine ⟨⟨rfl, rfl, nle rfl, nle rfl⟩, ?_⟩; conv => whnf) | (refine AD.plain rfl ?_; conv => whnf) | fail)
    repeat (first | ((with_reducible first | apply ga | apply gb | apply gc | apply gd | apply ge | apply gf | apply gg | apply gh | apply gi | apply gj); conv => whnf) | (refine ⟨⟨rfl, rfl, nle rfl, nle rfl⟩, ?_⟩; conv => whnf) | (refine AD.plain rfl ?_; conv => whnf) | (refine AD.on rfl rfl rfl ?_; conv => whnf) | (refine AD.off rfl rfl rfl ?_; conv => whnf) | fail)
    refine ⟨_, [], ⟨_, (f36 (l.getD i b0).ws hb.2), ⟨.same, .same, trivial⟩, .inl rfl⟩, ?_⟩
    conv => whnf
    repeat (first | ((with_reducible first | apply ga | apply gb | apply gc | apply gd | apply ge | apply gf | apply gg | apply gh | apply gi | apply gj); conv => whnf) | (refine ⟨⟨rfl, rfl, nle rfl, nle rfl⟩, ?_⟩; conv => whnf) | (refine AD.plain rfl ?_; conv => whnf) | fail)
    repeat (first | ((with_reducible first | apply ga | apply gb | apply gc | apply gd | apply ge | apply gf | apply gg | apply gh | apply gi | apply gj); conv => whnf) | (refine ⟨⟨rfl, rfl, nle rfl, nle rfl⟩, ?_⟩; conv => whnf) | (refine AD.plain rfl ?_; conv => whnf) | (refine AD.on rfl rfl rfl ?_; conv => whnf) | (refine AD.off rfl rfl rfl ?_; conv => whnf) | fail)
    refine AD.nil ⟨by kernel_rfl, ?_⟩
    conv => whnf
    repeat (first | ((with_reducible first | apply ga | apply gb | apply gc | apply gd | apply ge | apply gf | apply gg | apply gh | apply gi | apply gj); conv => whnf) | (refine ⟨⟨rfl, rfl, nle rfl, nle rfl⟩, ?_⟩; conv => whnf) | (refine AD.plain rfl ?_; conv => whnf) | fail)
    refine ⟨⟨by unfold inI64; omega⟩, ?_⟩
    conv => whnf
    repeat (first | ((with_reducible first | apply ga | apply gb | apply gc | apply gd | apply ge | apply gf | apply gg | apply gh | apply gi | apply gj); conv => whnf) | (refine ⟨⟨rfl, rfl, nle rfl, nle rfl⟩, ?_⟩; conv => whnf) | (refine AD.plain rfl ?_; conv => whnf) | fail)
    exact ⟨i + 1, by omega, SubS.mk [] rfl ⟨⟨_, rfl, .same⟩, ⟨_, rfl, .same⟩, ⟨_, rfl, .same⟩, trivial⟩ trivial, by omega⟩
  · conv => whnf
    repeat (first | ((with_reducible first | apply ga | apply gb | apply gc | apply gd | apply ge | apply gf | apply gg | apply gh | apply gi | apply gj); conv => whnf) | (refine ⟨⟨rfl, rfl, nle rfl, nle rfl⟩, ?_⟩; conv => whnf) | (refine AD.plain rfl ?_; conv => whnf) | fail)
    exact done_bool _ _ rfl rfl rfl
end Go.Proofs.Ytioccpodnkllfaa

namespace Go.Proofs.Ytioccpodnkllfaa
open Go Go.AM
attribute [local irreducible] AWP CallK PureCall SubS HeapCall
def oddF (n : Nat) : Nat → Bool
  | 0 => false
  | i + 1 => oddF n i != n.testBit i
theorem bit16 (n i : Nat) (h : n < 65536) (hi : i < 16) : (bitsOf .and .u16 ((n : Int).fdiv (2 ^ (min (i : Int).toNat IntKind.u16.bits))) 1 == 1) = n.testBit i := by
  have e1 : min (i : Int).toNat IntKind.u16.bits = i := by rw [Int.toNat_natCast]; exact Nat.min_eq_left (by show i ≤ 16; omega)
  have e2 : (n : Int).fdiv (2 ^ i) = ((n / 2 ^ i : Nat) : Int) := by
    rw [Int.fdiv_eq_ediv_of_nonneg _ (by exact_mod_cast Nat.zero_le (2 ^ i))]; simp
  have e3 := and_nat (k := .u16) rfl (a := n / 2 ^ i) (b := 1) (Nat.lt_of_le_of_lt (Nat.div_le_self _ _) h) (by decide)
  rw [e1, e2, show (1 : Int) = ((1 : Nat) : Int) from rfl, e3, Nat.and_one_is_mod, Nat.testBit_eq_decide_div_mod_eq]
  by_cases hc : n / 2 ^ i % 2 = 1
  · rw [decide_eq_true hc, hc]; rfl
  · rw [decide_eq_false hc]
    have : n / 2 ^ i % 2 = 0 := by omega
    rw [this]; rfl
theorem f59 (n : Nat) (h : n < 65536) : PureCall Try.prog 59 [u16 n] (bb (oddF n 16)) := by
  refine PureCall.run tab_ok mixed (by kernel_rfl) Try.func59 rfl rfl rfl ?_
  conv => whnf
  repeat (first | ((with_reducible first | apply ga | apply gb | apply gc | apply gd | apply ge | apply gf | apply gg | apply gh | apply gi | apply gj); conv => whnf) | (refine ⟨⟨rfl, rfl, nle rfl, nle rfl⟩, ?_⟩; conv => whnf) | fail)
  refine ex_loop tab_ok mixed (fun i : Nat => i ≤ 16) (fun i => mkSt 17 [(0, u16 n), (3, bb (oddF n i)), (5, i64 i)] []) (fun i => 16 - i) 0 (by decide) (SubS.mk [] rfl ⟨⟨_, rfl, .same⟩, ⟨_, rfl, .same⟩, ⟨_, rfl, .same⟩, trivial⟩ trivial) ?_
  intro i hi
  conv => whnf
  repeat (first | ((with_reducible first | apply ga | apply gb | apply gc | apply gd | apply ge | apply gf | apply gg | apply gh | apply gi | apply gj); conv => whnf) | (refine ⟨⟨rfl, rfl, nle rfl, nle rfl⟩, ?_⟩; conv => whnf) | fail)
  refine ⟨fun hc => ?_, fun hc => ?_⟩ <;> replace hc := nm hc <;> (try rw [Int.toNat_zero] at hc) <;> (try rw [Int.toNat_one] at hc)
  · have hlt : i < 16 := by omega
    conv => whnf
    repeat (first | ((with_reducible first | apply ga | apply gb | apply gc | apply gd | apply ge | apply gf | apply gg | apply gh | apply gi | apply gj); conv => whnf) | (refine ⟨⟨rfl, rfl, nle rfl, nle rfl⟩, ?_⟩; conv => whnf) | fail)
    refine ⟨⟨by omega⟩, ?_⟩
    conv => whnf
    repeat (first | ((with_reducible first | apply ga | apply gb | apply gc | apply gd | apply ge | apply gf | apply gg | apply gh | apply gi | apply gj); conv => whnf) | (refine ⟨⟨rfl, rfl, nle rfl, nle rfl⟩, ?_⟩; conv => whnf) | fail)
    rw [bit16 n i h hlt]
    refine ⟨fun hd => ?_, fun hd => ?_⟩ <;> replace hd := nm hd <;> (try rw [Int.toNat_zero] at hd) <;> (try rw [Int.toNat_one] at hd)
    · conv => whnf
      repeat (first | ((with_reducible first | apply ga | apply gb | apply gc | apply gd | apply ge | apply gf | apply gg | apply gh | apply gi | apply gj); conv => whnf) | (refine ⟨⟨rfl, rfl, nle rfl, nle rfl⟩, ?_⟩; conv => whnf) | fail)
      refine ⟨⟨by unfold inI64; omega⟩, ?_⟩
      conv => whnf
      repeat (first | ((with_reducible first | apply ga | apply gb | apply gc | apply gd | apply ge | apply gf | apply gg | apply gh | apply gi | apply gj); conv => whnf) | (refine ⟨⟨rfl, rfl, nle rfl, nle rfl⟩, ?_⟩; conv => whnf) | fail)
      exact ⟨i + 1, by omega, SubS.mk [] rfl ⟨⟨_, rfl, .same⟩, ⟨_, rfl, VLe.bool (by rw [oddF, hd]; cases oddF n i <;> rfl)⟩, ⟨_, rfl, .same⟩, trivial⟩ trivial, by omega⟩
    · conv => whnf
      repeat (first | ((with_reducible first | apply ga | apply gb | apply gc | apply gd | apply ge | apply gf | apply gg | apply gh | apply gi | apply gj); conv => whnf) | (refine ⟨⟨rfl, rfl, nle rfl, nle rfl⟩, ?_⟩; conv => whnf) | fail)
      refine ⟨⟨by unfold inI64; omega⟩, ?_⟩
      conv => whnf
      repeat (first | ((with_reducible first | apply ga | apply gb | apply gc | apply gd | apply ge | apply gf | apply gg | apply gh | apply gi | apply gj); conv => whnf) | (refine ⟨⟨rfl, rfl, nle rfl, nle rfl⟩, ?_⟩; conv => whnf) | fail)
      exact ⟨i + 1, by omega, SubS.mk [] rfl ⟨⟨_, rfl, .same⟩, ⟨_, rfl, VLe.bool (by rw [oddF, hd]; cases oddF n i <;> rfl)⟩, ⟨_, rfl, .same⟩, trivial⟩ trivial, by omega⟩
  · obtain rfl : i = 16 := by omega
    conv => whnf
    repeat (first | ((with_reducible first | apply ga | apply gb | apply gc | apply gd | apply ge | apply gf | apply gg | apply gh | apply gi | apply gj); conv => whnf) | (refine ⟨⟨rfl, rfl, nle rfl, nle rfl⟩, ?_⟩; conv => whnf) | fail)
    exact done_bool _ _ rfl rfl rfl
def putW (w : Nat) : Nat := if oddF (lo w) 16 then lo w else lo w + 32768
theorem putW_lt (w : Nat) : putW w < 65536 := by have := lo_lt w; unfold putW; split <;> omega
theorem or15 (n : Nat) (h : n < 32768) : bitsOf .or .u16 (n : Int) 32768 = ((n + 32768 : Nat) : Int) := by
  have e := or_nat (k := .u16) rfl (a := n) (b := 32768) (by show n < 65536; omega) (by decide)
  rw [show (32768 : Int) = ((32768 : Nat) : Int) from rfl, e, Nat.or_comm]
  have := Nat.two_pow_add_eq_or_of_lt (i := 15) (b := n) (by omega) 1
  rw [show (32768 : Nat) = 2 ^ 15 * 1 from rfl, ← this, Nat.add_comm]
theorem f67 (w : Nat) (h : w < 65536) : PureCall Try.prog 67 [u16 w] (u16 (putW w : Nat)) := by
  have hl := lo_lt w
  refine PureCall.run tab_ok mixed (by kernel_rfl) Try.func67 rfl rfl rfl ?_
  conv => whnf
  repeat (first | ((with_reducible first | apply ga | apply gb | apply gc | apply gd | apply ge | apply gf | apply gg | apply gh | apply gi | apply gj); conv => whnf) | (refine ⟨⟨rfl, rfl, nle rfl, nle rfl⟩, ?_⟩; conv => whnf) | fail)
  refine CallK.flat [] (f59 (lo w) (by omega)) ⟨VLe.int (and15n w h), trivial⟩ rfl ?_
  conv => whnf
  repeat (first | ((with_reducible first | apply ga | apply gb | apply gc | apply gd | apply ge | apply gf | apply gg | apply gh | apply gi | apply gj); conv => whnf) | (refine ⟨⟨rfl, rfl, nle rfl, nle rfl⟩, ?_⟩; conv => whnf) | fail)
  refine ⟨fun hc => ?_, fun hc => ?_⟩ <;> replace hc := nm hc <;> (try rw [Int.toNat_zero] at hc) <;> (try rw [Int.toNat_one] at hc)
  · conv => whnf
    repeat (first | ((with_reducible first | apply ga | apply gb | apply gc | apply gd | apply ge | apply gf | apply gg | apply gh | apply gi | apply gj); conv => whnf) | (refine ⟨⟨rfl, rfl, nle rfl, nle rfl⟩, ?_⟩; conv => whnf) | fail)
    exact done_int _ _ _ rfl rfl (by rw [and15n w h, or15 _ hl]; unfold putW; rw [if_neg (by simpa using hc)])
  · conv => whnf
    repeat (first | ((with_reducible first | apply ga | apply gb | apply gc | apply gd | apply ge | apply gf | apply gg | apply gh | apply gi | apply gj); conv => whnf) | (refine ⟨⟨rfl, rfl, nle rfl, nle rfl⟩, ?_⟩; conv => whnf) | fail)
    exact done_int _ _ _ rfl rfl (by rw [and15n w h]; unfold putW; rw [if_pos (by simpa using hc)])
theorem f32 (s : Nat) (h : s < 65536) : PureCall Try.prog 32 [u16 s] (tupV [u16 (lo s : Nat), bb (oddF s 16)]) := by
  refine PureCall.run tab_ok mixed (by kernel_rfl) Try.func32 rfl rfl rfl ?_
  conv => whnf
  repeat (first | ((with_reducible first | apply ga | apply gb | apply gc | apply gd | apply ge | apply gf | apply gg | apply gh | apply gi | apply gj); conv => whnf) | (refine ⟨⟨rfl, rfl, nle rfl, nle rfl⟩, ?_⟩; conv => whnf) | fail)
  refine CallK.flat [] (f59 s h) ⟨.same, trivial⟩ rfl ?_
  conv => whnf
  repeat (first | ((with_reducible first | apply ga | apply gb | apply gc | apply gd | apply ge | apply gf | apply gg | apply gh | apply gi | apply gj); conv => whnf) | (refine ⟨⟨rfl, rfl, nle rfl, nle rfl⟩, ?_⟩; conv => whnf) | fail)
  exact done_tup [u16 _, bb _] [] rfl ⟨VLe.int (and15n s h), .same, trivial⟩
end Go.Proofs.Ytioccpodnkllfaa

namespace Go.Proofs.Ytioccpodnkllfaa
open Go Go.AM
attribute [local irreducible] AWP CallK PureCall SubS HeapCall
def checkE (b : BankR) (last : Int) : Int := if numB b.num = false then 3 else if b.num ≤ last then 8 else if lenB b.ws = false then 4 else if validW b.ws = false then 3 else if sealedB b = false then 10 else 0
theorem agg2 {H : Heap} {B : List Nat} {U : List (Nat × Nat)} {f g : Nat → AV} (h0 : VLe H B U (f 0) (g 0)) (h1 : VLe H B U (f 1) (g 1)) : VLe H B U (.agg 2 f) (.agg 2 g) :=
  .agg _ _ _ fun i hi => match i, hi with
    | 0, _ => h0
    | 1, _ => h1
theorem f47 (b : BankR) (hB : BankB b) (last : Int) : PureCall Try.prog 47 [b.av, i64 last] (i64 (checkE b last)) := by
  have hl := hB.2.1
  have c5 := f23 b hB
  unfold checkE
  refine PureCall.run tab_ok mixed (by kernel_rfl) Try.func47 rfl rfl rfl ?_
  conv => whnf
  repeat (first | ((with_reducible first | apply ga | apply gb | apply gc | apply gd | apply ge | apply gf | apply gg | apply gh | apply gi | apply gj); conv => whnf) | (refine ⟨⟨rfl, rfl, nle rfl, nle rfl⟩, ?_⟩; conv => whnf) | fail)
  refine CallK.flat [] (f37 b.num) ⟨.same, trivial⟩ rfl ?_
  conv => whnf
  repeat (first | ((with_reducible first | apply ga | apply gb | apply gc | apply gd | apply ge | apply gf | apply gg | apply gh | apply gi | apply gj); conv => whnf) | (refine ⟨⟨rfl, rfl, nle rfl, nle rfl⟩, ?_⟩; conv => whnf) | fail)
  refine ⟨fun h1 => ?_, fun h1 => ?_⟩ <;> replace h1 := nm h1 <;> (try rw [Int.toNat_zero] at h1) <;> (try rw [Int.toNat_one] at h1)
  · conv => whnf
    repeat (first | ((with_reducible first | apply ga | apply gb | apply gc | apply gd | apply ge | apply gf | apply gg | apply gh | apply gi | apply gj); conv => whnf) | (refine ⟨⟨rfl, rfl, nle rfl, nle rfl⟩, ?_⟩; conv => whnf) | fail)
    rw [if_pos h1]
    exact done_int _ _ _ rfl rfl rfl
  · rw [if_neg (by rw [h1]; decide)]
    conv => whnf
    repeat (first | ((with_reducible first | apply ga | apply gb | apply gc | apply gd | apply ge | apply gf | apply gg | apply gh | apply gi | apply gj); conv => whnf) | (refine ⟨⟨rfl, rfl, nle rfl, nle rfl⟩, ?_⟩; conv => whnf) | fail)
    refine ⟨fun h2 => ?_, fun h2 => ?_⟩ <;> replace h2 := nm h2 <;> (try rw [Int.toNat_zero] at h2) <;> (try rw [Int.toNat_one] at h2)
    · conv => whnf
      repeat (first | ((with_reducible first | apply ga | apply gb | apply gc | apply gd | apply ge | apply gf | apply gg | apply gh | apply gi | apply gj); conv => whnf) | (refine ⟨⟨rfl, rfl, nle rfl, nle rfl⟩, ?_⟩; conv => whnf) | fail)
      rw [if_pos h2]
      exact done_int _ _ _ rfl rfl rfl
    · rw [if_neg (by omega)]
      conv => whnf
      repeat (first | ((with_reducible first | apply ga | apply gb | apply gc | apply gd | apply ge | apply gf | apply gg | apply gh | apply gi | apply gj); conv => whnf) | (refine ⟨⟨rfl, rfl, nle rfl, nle rfl⟩, ?_⟩; conv => whnf) | fail)
      refine ⟨fun h3 => ?_, fun h3 => ?_⟩ <;> replace h3 := nm h3 <;> (try rw [Int.toNat_zero] at h3) <;> (try rw [Int.toNat_one] at h3)
      · conv => whnf
        repeat (first | ((with_reducible first | apply ga | apply gb | apply gc | apply gd | apply ge | apply gf | apply gg | apply gh | apply gi | apply gj); conv => whnf) | (refine ⟨⟨rfl, rfl, nle rfl, nle rfl⟩, ?_⟩; conv => whnf) | fail)
        rw [if_pos (show lenB b.ws = false by unfold lenB; exact decide_eq_false (by omega))]
        exact done_int _ _ _ rfl rfl rfl
      · rw [if_neg (show ¬ lenB b.ws = false by unfold lenB; rw [decide_eq_true (by omega)]; decide)]
        conv => whnf
        repeat (first | ((with_reducible first | apply ga | apply gb | apply gc | apply gd | apply ge | apply gf | apply gg | apply gh | apply gi | apply gj); conv => whnf) | (refine ⟨⟨rfl, rfl, nle rfl, nle rfl⟩, ?_⟩; conv => whnf) | fail)
        refine CallK.flat [] (f38 b.ws hB.2) ⟨.same, trivial⟩ rfl ?_
        conv => whnf
        repeat (first | ((with_reducible first | apply ga | apply gb | apply gc | apply gd | apply ge | apply gf | apply gg | apply gh | apply gi | apply gj); conv => whnf) | (refine ⟨⟨rfl, rfl, nle rfl, nle rfl⟩, ?_⟩; conv => whnf) | fail)
        refine ⟨fun h4 => ?_, fun h4 => ?_⟩ <;> replace h4 := nm h4 <;> (try rw [Int.toNat_zero] at h4) <;> (try rw [Int.toNat_one] at h4)
        · conv => whnf
          repeat (first | ((with_reducible first | apply ga | apply gb | apply gc | apply gd | apply ge | apply gf | apply gg | apply gh | apply gi | apply gj); conv => whnf) | (refine ⟨⟨rfl, rfl, nle rfl, nle rfl⟩, ?_⟩; conv => whnf) | fail)
          rw [if_pos h4]
          exact done_int _ _ _ rfl rfl rfl
        · rw [if_neg (by rw [h4]; decide)]
          conv => whnf
          repeat (first | ((with_reducible first | apply ga | apply gb | apply gc | apply gd | apply ge | apply gf | apply gg | apply gh | apply gi | apply gj); conv => whnf) | (refine ⟨⟨rfl, rfl, nle rfl, nle rfl⟩, ?_⟩; conv => whnf) | fail)
          refine CallK.flat [] c5 ⟨agg2 .same .same, trivial⟩ rfl ?_
          conv => whnf
          repeat (first | ((with_reducible first | apply ga | apply gb | apply gc | apply gd | apply ge | apply gf | apply gg | apply gh | apply gi | apply gj); conv => whnf) | (refine ⟨⟨rfl, rfl, nle rfl, nle rfl⟩, ?_⟩; conv => whnf) | fail)
          refine ⟨fun h5 => ?_, fun h5 => ?_⟩ <;> replace h5 := nm h5 <;> (try rw [Int.toNat_zero] at h5) <;> (try rw [Int.toNat_one] at h5)
          · conv => whnf
            repeat (first | ((with_reducible first | apply ga | apply gb | apply gc | apply gd | apply ge | apply gf | apply gg | apply gh | apply gi | apply gj); conv => whnf) | (refine ⟨⟨rfl, rfl, nle rfl, nle rfl⟩, ?_⟩; conv => whnf) | fail)
            rw [if_pos h5]
            exact done_int _ _ _ rfl rfl rfl
          · rw [if_neg (by rw [h5]; decide)]
            conv => whnf
            repeat (first | ((with_reducible first | apply ga | apply gb | apply gc | apply gd | apply ge | apply gf | apply gg | apply gh | apply gi | apply gj); conv => whnf) | (refine ⟨⟨rfl, rfl, nle rfl, nle rfl⟩, ?_⟩; conv => whnf) | fail)
            exact done_int _ _ _ rfl rfl rfl
end Go.Proofs.Ytioccpodnkllfaa

namespace Go.Proofs.Ytioccpodnkllfaa
open Go Go.AM
attribute [local irreducible] AWP CallK PureCall SubS HeapCall
def onesK : Nat → Nat → Nat
  | 0, _ => 0
  | k + 1, n => n % 2 + onesK k (n / 2)
theorem onesK_succ (k m : Nat) : onesK (k + 1) m = m % 2 + onesK k (m / 2) := rfl
theorem onesK_le : ∀ k n, onesK k n ≤ k
  | 0, _ => Nat.le_refl _
  | k + 1, n => by have := onesK_le k (n / 2); rw [onesK]; omega
theorem onesK_zero : ∀ k, onesK k 0 = 0
  | 0 => rfl
  | k + 1 => by rw [onesK, Nat.zero_div, onesK_zero k]
theorem odd_step : ∀ (k n : Nat), oddF n (k + 1) = (decide (n % 2 = 1) != oddF (n / 2) k)
  | 0, n => by
    rw [oddF, oddF, oddF, Nat.testBit_zero]
    cases decide (n % 2 = 1) <;> rfl
  | k + 1, n => by
    rw [oddF, odd_step k n, Nat.testBit_succ, oddF]
    cases decide (n % 2 = 1) <;> cases oddF (n / 2) k <;> cases (n / 2).testBit k <;> rfl
theorem odd_ones : ∀ (k n : Nat), oddF n k = decide (onesK k n % 2 = 1)
  | 0, n => rfl
  | k + 1, n => by
    rw [odd_step, odd_ones k (n / 2), onesK]
    by_cases h1 : n % 2 = 1
    · by_cases h2 : onesK k (n / 2) % 2 = 1
      · rw [decide_eq_true h1, decide_eq_true h2, decide_eq_false (by omega)]; rfl
      · rw [decide_eq_true h1, decide_eq_false h2, decide_eq_true (by omega)]; rfl
    · by_cases h2 : onesK k (n / 2) % 2 = 1
      · rw [decide_eq_false h1, decide_eq_true h2, decide_eq_true (by omega)]; rfl
      · rw [decide_eq_false h1, decide_eq_false h2, decide_eq_false (by omega)]; rfl
theorem f75 (n : Nat) (h : n < 65536) : PureCall Try.prog 75 [i64 n] (i64 (onesK 16 n : Nat)) := by
  refine PureCall.run tab_ok mixed (by kernel_rfl) Try.func75 rfl rfl rfl ?_
  conv => whnf
  repeat (first | ((with_reducible first | apply ga | apply gb | apply gc | apply gd | apply ge | apply gf | apply gg | apply gh | apply gi | apply gj); conv => whnf) | (refine ⟨⟨rfl, rfl, nle rfl, nle rfl⟩, ?_⟩; conv => whnf) | fail)
  refine ex_loop tab_ok mixed (fun x : Nat × Nat × Nat => (x.1 ≤ 16 ∧ x.2.1 < 2 ^ x.1) ∧ onesK 16 n = x.2.2 + onesK x.1 x.2.1) (fun x => mkSt 13 [(0, i64 x.2.1), (3, i64 x.2.2)] []) (fun x => x.1) (16, n, 0) ⟨⟨Nat.le_refl _, h⟩, by simp⟩ (SubS.mk [] rfl ⟨⟨_, rfl, .same⟩, ⟨_, rfl, .same⟩, trivial⟩ trivial) ?_
  rintro ⟨k, m, c⟩ ⟨⟨hk, hm⟩, hI⟩
  dsimp only at hk hm hI ⊢
  have hle := onesK_le 16 n
  conv => whnf
  repeat (first | ((with_reducible first | apply ga | apply gb | apply gc | apply gd | apply ge | apply gf | apply gg | apply gh | apply gi | apply gj); conv => whnf) | (refine ⟨⟨rfl, rfl, nle rfl, nle rfl⟩, ?_⟩; conv => whnf) | fail)
  refine ⟨fun hc => ?_, fun hc => ?_⟩ <;> replace hc := nm hc <;> (try rw [Int.toNat_zero] at hc) <;> (try rw [Int.toNat_one] at hc)
  · cases k with
    | zero => exfalso; omega
    | succ k =>
      rw [onesK_succ k m] at hI
      have hm' : m < 2 ^ (k + 1) := hm
      have hm2 : m < 65536 := Nat.lt_of_lt_of_le hm' (Nat.pow_le_pow_right (n := 2) (by decide) hk)
      have hm3 : m / 2 < 2 ^ k := by rw [Nat.pow_succ] at hm'; omega
      have e1 : ((m : Int).tmod 2) = ((m % 2 : Nat) : Int) := by rw [Int.tmod_eq_emod_of_nonneg (by omega)]; omega
      have e2 : ((m : Int).tdiv 2) = ((m / 2 : Nat) : Int) := by rw [Int.tdiv_eq_ediv_of_nonneg (by omega)]; omega
      conv => whnf
      repeat (first | ((with_reducible first | apply ga | apply gb | apply gc | apply gd | apply ge | apply gf | apply gg | apply gh | apply gi | apply gj); conv => whnf) | (refine ⟨⟨rfl, rfl, nle rfl, nle rfl⟩, ?_⟩; conv => whnf) | fail)
      refine ⟨⟨by decide⟩, ?_⟩
      conv => whnf
      repeat (first | ((with_reducible first | apply ga | apply gb | apply gc | apply gd | apply ge | apply gf | apply gg | apply gh | apply gi | apply gj); conv => whnf) | (refine ⟨⟨rfl, rfl, nle rfl, nle rfl⟩, ?_⟩; conv => whnf) | fail)
      refine ⟨⟨by rw [e1]; unfold inI64; omega⟩, ?_⟩
      conv => whnf
      repeat (first | ((with_reducible first | apply ga | apply gb | apply gc | apply gd | apply ge | apply gf | apply gg | apply gh | apply gi | apply gj); conv => whnf) | (refine ⟨⟨rfl, rfl, nle rfl, nle rfl⟩, ?_⟩; conv => whnf) | fail)
      refine ⟨⟨by decide, by rw [e2]; unfold inI64; omega⟩, ?_⟩
      conv => whnf
      repeat (first | ((with_reducible first | apply ga | apply gb | apply gc | apply gd | apply ge | apply gf | apply gg | apply gh | apply gi | apply gj); conv => whnf) | (refine ⟨⟨rfl, rfl, nle rfl, nle rfl⟩, ?_⟩; conv => whnf) | fail)
      exact ⟨(k, m / 2, c + m % 2), ⟨⟨by dsimp only; omega, hm3⟩, by dsimp only; omega⟩, SubS.mk [] rfl ⟨⟨_, rfl, VLe.int e2⟩, ⟨_, rfl, VLe.int (by rw [e1]; dsimp only; omega)⟩, trivial⟩ trivial, by dsimp only; omega⟩
  · obtain rfl : m = 0 := by omega
    rw [onesK_zero] at hI
    conv => whnf
    repeat (first | ((with_reducible first | apply ga | apply gb | apply gc | apply gd | apply ge | apply gf | apply gg | apply gh | apply gi | apply gj); conv => whnf) | (refine ⟨⟨rfl, rfl, nle rfl, nle rfl⟩, ?_⟩; conv => whnf) | fail)
    exact done_int _ _ _ rfl rfl (by rw [hI]; omega)
theorem ones_odd (n : Nat) : (((onesK 16 n : Nat) : Int).tmod 2 == 1) = oddF n 16 := by
  rw [odd_ones, Int.tmod_eq_emod_of_nonneg (by omega)]
  by_cases h : onesK 16 n % 2 = 1
  · rw [decide_eq_true h, show ((onesK 16 n : Nat) : Int) % 2 = 1 by omega]; rfl
  · rw [decide_eq_false h, show ((onesK 16 n : Nat) : Int) % 2 = 0 by omega]; rfl
theorem tlo (w : Nat) (h : w < 65536) : (IntKind.i64.wrap (w : Int)).tmod 32768 = ((lo w : Nat) : Int) := by
  rw [wi64 (by omega) (by omega), Int.tmod_eq_emod_of_nonneg (by omega)]; unfold lo; omega
theorem f74 (w : Nat) (h : w < 65536) : PureCall Try.prog 74 [u16 w] (bb (oddF (lo w) 16)) := by
  have hl := lo_lt w
  refine PureCall.run tab_ok mixed (by kernel_rfl) Try.func74 rfl rfl rfl ?_
  conv => whnf
  repeat (first | ((with_reducible first | apply ga | apply gb | apply gc | apply gd | apply ge | apply gf | apply gg | apply gh | apply gi | apply gj); conv => whnf) | (refine ⟨⟨rfl, rfl, nle rfl, nle rfl⟩, ?_⟩; conv => whnf) | fail)
  refine ⟨⟨by decide⟩, ?_⟩
  conv => whnf
  repeat (first | ((with_reducible first | apply ga | apply gb | apply gc | apply gd | apply ge | apply gf | apply gg | apply gh | apply gi | apply gj); conv => whnf) | (refine ⟨⟨rfl, rfl, nle rfl, nle rfl⟩, ?_⟩; conv => whnf) | fail)
  refine CallK.flat [] (f75 (lo w) (by omega)) ⟨VLe.int (tlo w h), trivial⟩ rfl ?_
  conv => whnf
  repeat (first | ((with_reducible first | apply ga | apply gb | apply gc | apply gd | apply ge | apply gf | apply gg | apply gh | apply gi | apply gj); conv => whnf) | (refine ⟨⟨rfl, rfl, nle rfl, nle rfl⟩, ?_⟩; conv => whnf) | fail)
  refine ⟨⟨by decide⟩, ?_⟩
  conv => whnf
  repeat (first | ((with_reducible first | apply ga | apply gb | apply gc | apply gd | apply ge | apply gf | apply gg | apply gh | apply gi | apply gj); conv => whnf) | (refine ⟨⟨rfl, rfl, nle rfl, nle rfl⟩, ?_⟩; conv => whnf) | fail)
  exact done_bool _ _ rfl rfl (ones_odd _)
theorem f68 (w : Nat) (h : w < 65536) : PureCall Try.prog 68 [u16 w] (u16 (putW w : Nat)) := by
  have hl := lo_lt w
  refine PureCall.run tab_ok mixed (by kernel_rfl) Try.func68 rfl rfl rfl ?_
  conv => whnf
  repeat (first | ((with_reducible first | apply ga | apply gb | apply gc | apply gd | apply ge | apply gf | apply gg | apply gh | apply gi | apply gj); conv => whnf) | (refine ⟨⟨rfl, rfl, nle rfl, nle rfl⟩, ?_⟩; conv => whnf) | fail)
  refine ⟨⟨by decide⟩, ?_⟩
  conv => whnf
  repeat (first | ((with_reducible first | apply ga | apply gb | apply gc | apply gd | apply ge | apply gf | apply gg | apply gh | apply gi | apply gj); conv => whnf) | (refine ⟨⟨rfl, rfl, nle rfl, nle rfl⟩, ?_⟩; conv => whnf) | fail)
  refine CallK.flat [] (f74 w h) ⟨.same, trivial⟩ rfl ?_
  conv => whnf
  repeat (first | ((with_reducible first | apply ga | apply gb | apply gc | apply gd | apply ge | apply gf | apply gg | apply gh | apply gi | apply gj); conv => whnf) | (refine ⟨⟨rfl, rfl, nle rfl, nle rfl⟩, ?_⟩; conv => whnf) | fail)
  refine ⟨fun hc => ?_, fun hc => ?_⟩ <;> replace hc := nm hc <;> (try rw [Int.toNat_zero] at hc) <;> (try rw [Int.toNat_one] at hc)
  · conv => whnf
    repeat (first | ((with_reducible first | apply ga | apply gb | apply gc | apply gd | apply ge | apply gf | apply gg | apply gh | apply gi | apply gj); conv => whnf) | (refine ⟨⟨rfl, rfl, nle rfl, nle rfl⟩, ?_⟩; conv => whnf) | fail)
    refine ⟨⟨by rw [tlo w h]; unfold inI64; omega⟩, ?_⟩
    conv => whnf
    repeat (first | ((with_reducible first | apply ga | apply gb | apply gc | apply gd | apply ge | apply gf | apply gg | apply gh | apply gi | apply gj); conv => whnf) | (refine ⟨⟨rfl, rfl, nle rfl, nle rfl⟩, ?_⟩; conv => whnf) | fail)
    exact done_int _ _ _ rfl rfl (by rw [tlo w h, wn16 (by omega) (by omega)]; unfold putW; rw [if_neg (by simpa using hc)]; omega)
  · conv => whnf
    repeat (first | ((with_reducible first | apply ga | apply gb | apply gc | apply gd | apply ge | apply gf | apply gg | apply gh | apply gi | apply gj); conv => whnf) | (refine ⟨⟨rfl, rfl, nle rfl, nle rfl⟩, ?_⟩; conv => whnf) | fail)
    exact done_int _ _ _ rfl rfl (by rw [tlo w h, wn16 (by omega) (by omega)]; unfold putW; rw [if_pos (by simpa using hc)])
theorem f69 (s : Nat) (h : s < 65536) : PureCall Try.prog 69 [u16 s] (tupV [u16 (lo s : Nat), bb (oddF s 16)]) := by
  have hl := lo_lt s
  refine PureCall.run tab_ok mixed (by kernel_rfl) Try.func69 rfl rfl rfl ?_
  conv => whnf
  repeat (first | ((with_reducible first | apply ga | apply gb | apply gc | apply gd | apply ge | apply gf | apply gg | apply gh | apply gi | apply gj); conv => whnf) | (refine ⟨⟨rfl, rfl, nle rfl, nle rfl⟩, ?_⟩; conv => whnf) | fail)
  refine ⟨⟨by decide⟩, ?_⟩
  conv => whnf
  repeat (first | ((with_reducible first | apply ga | apply gb | apply gc | apply gd | apply ge | apply gf | apply gg | apply gh | apply gi | apply gj); conv => whnf) | (refine ⟨⟨rfl, rfl, nle rfl, nle rfl⟩, ?_⟩; conv => whnf) | fail)
  refine CallK.flat [] (f75 s h) ⟨VLe.int (wi64 (by omega) (by omega)), trivial⟩ rfl ?_
  conv => whnf
  repeat (first | ((with_reducible first | apply ga | apply gb | apply gc | apply gd | apply ge | apply gf | apply gg | apply gh | apply gi | apply gj); conv => whnf) | (refine ⟨⟨rfl, rfl, nle rfl, nle rfl⟩, ?_⟩; conv => whnf) | fail)
  refine ⟨⟨by decide⟩, ?_⟩
  conv => whnf
  repeat (first | ((with_reducible first | apply ga | apply gb | apply gc | apply gd | apply ge | apply gf | apply gg | apply gh | apply gi | apply gj); conv => whnf) | (refine ⟨⟨rfl, rfl, nle rfl, nle rfl⟩, ?_⟩; conv => whnf) | fail)
  exact done_tup [u16 _, bb _] [] rfl ⟨VLe.int (by rw [tlo s h, wn16 (by omega) (by omega)]), VLe.bool (ones_odd s), trivial⟩
end Go.Proofs.Ytioccpodnkllfaa

namespace Go.Proofs.Ytioccpodnkllfaa
open Go Go.AM
attribute [local irreducible] AWP CallK PureCall SubS HeapCall
def lastW (b : BankR) : Nat := add (ofW b.num) (neg (sumW b.ws))
def sealR (b : BankR) : BankR × Int := if numB b.num = false then (b0, 3) else if 1024 ≤ (b.ws.length : Int) then (b0, 13) else if validW b.ws = false then (b0, 3) else (⟨b.num, b.ws ++ [lastW b]⟩, 0)
def sealT (x : BankR × Int) : AV := tupV [x.1.av, i64 x.2]
theorem num_in {n : Int} (h : ¬ numB n = false) : 0 ≤ n ∧ n ≤ 35 := by
  unfold numB at h
  simp only [Bool.and_eq_false_iff, decide_eq_false_iff_not, not_or, Classical.not_not] at h
  exact h
theorem neg_lt (w : Nat) : neg w < 65536 := by unfold neg; omega
set_option maxHeartbeats 1000000 in
theorem f19 (b : BankR) (hB : BankB b) : PureCall Try.prog 19 [b.av] (sealT (sealR b)) := by
  have hl := hB.2.1
  have hs := sum_lt b.ws 0 (by decide)
  unfold sealR
  refine PureCall.run tab_ok mixed (by kernel_rfl) Try.func19 rfl rfl rfl ?_
  conv => whnf
  repeat (first | ((with_reducible first | apply ga | apply gb | apply gc | apply gd | apply ge | apply gf | apply gg | apply gh | apply gi | apply gj); conv => whnf) | (refine ⟨⟨rfl, rfl, nle rfl, nle rfl⟩, ?_⟩; conv => whnf) | fail)
  refine CallK.flat [] (f37 b.num) ⟨.same, trivial⟩ rfl ?_
  conv => whnf
  repeat (first | ((with_reducible first | apply ga | apply gb | apply gc | apply gd | apply ge | apply gf | apply gg | apply gh | apply gi | apply gj); conv => whnf) | (refine ⟨⟨rfl, rfl, nle rfl, nle rfl⟩, ?_⟩; conv => whnf) | fail)
  refine ⟨fun h1 => ?_, fun h1 => ?_⟩ <;> replace h1 := nm h1 <;> (try rw [Int.toNat_zero] at h1) <;> (try rw [Int.toNat_one] at h1)
  · conv => whnf
    repeat (first | ((with_reducible first | apply ga | apply gb | apply gc | apply gd | apply ge | apply gf | apply gg | apply gh | apply gi | apply gj); conv => whnf) | (refine ⟨⟨rfl, rfl, nle rfl, nle rfl⟩, ?_⟩; conv => whnf) | fail)
    rw [if_pos h1]
    exact done_tup [b0.av, i64 3] [] rfl ⟨agg2 .same .nilA, .same, trivial⟩
  · rw [if_neg (by rw [h1]; decide)]
    have hn := num_in (n := b.num) (by rw [h1]; decide)
    conv => whnf
    repeat (first | ((with_reducible first | apply ga | apply gb | apply gc | apply gd | apply ge | apply gf | apply gg | apply gh | apply gi | apply gj); conv => whnf) | (refine ⟨⟨rfl, rfl, nle rfl, nle rfl⟩, ?_⟩; conv => whnf) | fail)
    refine ⟨fun h2 => ?_, fun h2 => ?_⟩ <;> replace h2 := nm h2 <;> (try rw [Int.toNat_zero] at h2) <;> (try rw [Int.toNat_one] at h2)
    · conv => whnf
      repeat (first | ((with_reducible first | apply ga | apply gb | apply gc | apply gd | apply ge | apply gf | apply gg | apply gh | apply gi | apply gj); conv => whnf) | (refine ⟨⟨rfl, rfl, nle rfl, nle rfl⟩, ?_⟩; conv => whnf) | fail)
      rw [if_pos h2]
      exact done_tup [b0.av, i64 13] [] rfl ⟨agg2 .same .nilA, .same, trivial⟩
    · rw [if_neg (by omega)]
      conv => whnf
      repeat (first | ((with_reducible first | apply ga | apply gb | apply gc | apply gd | apply ge | apply gf | apply gg | apply gh | apply gi | apply gj); conv => whnf) | (refine ⟨⟨rfl, rfl, nle rfl, nle rfl⟩, ?_⟩; conv => whnf) | fail)
      refine CallK.flat [] (f38 b.ws hB.2) ⟨.same, trivial⟩ rfl ?_
      conv => whnf
      repeat (first | ((with_reducible first | apply ga | apply gb | apply gc | apply gd | apply ge | apply gf | apply gg | apply gh | apply gi | apply gj); conv => whnf) | (refine ⟨⟨rfl, rfl, nle rfl, nle rfl⟩, ?_⟩; conv => whnf) | fail)
      refine ⟨fun h3 => ?_, fun h3 => ?_⟩ <;> replace h3 := nm h3 <;> (try rw [Int.toNat_zero] at h3) <;> (try rw [Int.toNat_one] at h3)
      · conv => whnf
        repeat (first | ((with_reducible first | apply ga | apply gb | apply gc | apply gd | apply ge | apply gf | apply gg | apply gh | apply gi | apply gj); conv => whnf) | (refine ⟨⟨rfl, rfl, nle rfl, nle rfl⟩, ?_⟩; conv => whnf) | fail)
        rw [if_pos h3]
        exact done_tup [b0.av, i64 3] [] rfl ⟨agg2 .same .nilA, .same, trivial⟩
      · rw [if_neg (by rw [h3]; decide)]
        conv => whnf
        repeat (first | ((with_reducible first | apply ga | apply gb | apply gc | apply gd | apply ge | apply gf | apply gg | apply gh | apply gi | apply gj); conv => whnf) | (refine ⟨⟨rfl, rfl, nle rfl, nle rfl⟩, ?_⟩; conv => whnf) | fail)
        refine CallK.flat [] (f39 b.num (by omega) (by omega)) ⟨.same, trivial⟩ rfl ?_
        conv => whnf
        repeat (first | ((with_reducible first | apply ga | apply gb | apply gc | apply gd | apply ge | apply gf | apply gg | apply gh | apply gi | apply gj); conv => whnf) | (refine ⟨⟨rfl, rfl, nle rfl, nle rfl⟩, ?_⟩; conv => whnf) | fail)
        refine ⟨fun h => absurd h (by simp), fun _ => ?_⟩
        conv => whnf
        repeat (first | ((with_reducible first | apply ga | apply gb | apply gc | apply gd | apply ge | apply gf | apply gg | apply gh | apply gi | apply gj); conv => whnf) | (refine ⟨⟨rfl, rfl, nle rfl, nle rfl⟩, ?_⟩; conv => whnf) | fail)
        refine ⟨⟨by unfold inI64; omega⟩, ?_⟩
        conv => whnf
        repeat (first | ((with_reducible first | apply ga | apply gb | apply gc | apply gd | apply ge | apply gf | apply gg | apply gh | apply gi | apply gj); conv => whnf) | (refine ⟨⟨rfl, rfl, nle rfl, nle rfl⟩, ?_⟩; conv => whnf) | fail)
        refine ⟨⟨by omega, by omega, by omega, by show ((b.ws.length : Int) + 1) * 2 ≤ _; omega⟩, ?_⟩
        conv => whnf
        repeat (first | ((with_reducible first | apply ga | apply gb | apply gc | apply gd | apply ge | apply gf | apply gg | apply gh | apply gi | apply gj); conv => whnf) | (refine ⟨⟨rfl, rfl, nle rfl, nle rfl⟩, ?_⟩; conv => whnf) | fail)
        refine ⟨⟨rfl, rfl, rfl, rfl, rfl, rfl, rfl, by show (0 + b.ws.length) * 2 ≤ _; omega⟩, ?_⟩
        conv => whnf
        repeat (first | ((with_reducible first | apply ga | apply gb | apply gc | apply gd | apply ge | apply gf | apply gg | apply gh | apply gi | apply gj); conv => whnf) | (refine ⟨⟨rfl, rfl, nle rfl, nle rfl⟩, ?_⟩; conv => whnf) | fail)
        refine CallK.flat [] (f21 b.ws hB.2) ⟨.same, trivial⟩ rfl ?_
        conv => whnf
        repeat (first | ((with_reducible first | apply ga | apply gb | apply gc | apply gd | apply ge | apply gf | apply gg | apply gh | apply gi | apply gj); conv => whnf) | (refine ⟨⟨rfl, rfl, nle rfl, nle rfl⟩, ?_⟩; conv => whnf) | fail)
        refine CallK.flat [] (f40 (sumW b.ws) hs) ⟨.same, trivial⟩ rfl ?_
        conv => whnf
        repeat (first | ((with_reducible first | apply ga | apply gb | apply gc | apply gd | apply ge | apply gf | apply gg | apply gh | apply gi | apply gj); conv => whnf) | (refine ⟨⟨rfl, rfl, nle rfl, nle rfl⟩, ?_⟩; conv => whnf) | fail)
        refine CallK.flat [] (f31 (ofW b.num) (neg (sumW b.ws)) (by have := ofW_lt (n := b.num) (by omega) (by omega); omega) (neg_lt _)) ⟨.same, .same, trivial⟩ rfl ?_
        conv => whnf
        repeat (first | ((with_reducible first | apply ga | apply gb | apply gc | apply gd | apply ge | apply gf | apply gg | apply gh | apply gi | apply gj); conv => whnf) | (refine ⟨⟨rfl, rfl, nle rfl, nle rfl⟩, ?_⟩; conv => whnf) | fail)
        refine ⟨⟨⟨rfl, rfl, rfl, nle rfl⟩, rfl, rfl, rfl, rfl, rfl, rfl, by show (0 + b.ws.length + 1) * 2 ≤ _; omega⟩, ?_⟩
        conv => whnf
        repeat (first | ((with_reducible first | apply ga | apply gb | apply gc | apply gd | apply ge | apply gf | apply gg | apply gh | apply gi | apply gj); conv => whnf) | (refine ⟨⟨rfl, rfl, nle rfl, nle rfl⟩, ?_⟩; conv => whnf) | fail)
        refine done_tup [BankR.av ⟨b.num, b.ws ++ [lastW b]⟩, i64 0] [39] rfl ⟨agg2 .same (VLe.frzO (E := 39) (g := 2) (L := [] ++ b.ws ++ [lastW b]) rfl rfl ?_ ?_), .same, trivial⟩
        · generalize ASt.heap _ = G
          dsimp only
          refine CellsA.row (CellsA.cat (CellsA.cat (L := []) ?_ ?_ ?_) ?_ (CellsA.one ?_)) rfl rfl ?_
          all_goals first
            | (intro i j hi hj; exact absurd hi (Nat.not_lt_zero i))
            | (intro j hj; have hj0 : j = 0 := Nat.lt_one_iff.mp hj; subst hj0; exact .same)
            | (intro i j hi hj; exact .same)
            | rfl
            | simp
        · simp
end Go.Proofs.Ytioccpodnkllfaa
