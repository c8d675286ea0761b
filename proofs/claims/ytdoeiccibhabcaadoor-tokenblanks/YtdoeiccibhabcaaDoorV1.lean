/- Part of the proof: what the functions that the law calls compute (1). -/
import Derived.Test.YtdoeiccibhabcaaDoorB
import Derived.Test.YtdoeiccibhabcaaDoorS
namespace Go.Proofs.YtdoeiccibhabcaaDoor
open Go Go.AM Go.RowKit
attribute [local irreducible] AWP CallK PureCall SubS HeapCall
def i64 (n : Int) : AV := .pv (.int .i64 n)
def u8 (n : Int) : AV := .pv (.int .u8 n)
def bb (b : Bool) : AV := .pv (.bool b)
def st (s : List UInt8) : AV := .pv (.str s)

/-- A test's outcome in other words. -/
class Nm (p : Prop) (q : outParam Prop) : Prop where
  out : p → q
theorem nm {p q : Prop} [Nm p q] (h : p) : q := Nm.out h
instance (priority := 10) {b : Bool} : Nm (b = true) (b = true) := ⟨id⟩
instance (priority := 10) {b : Bool} : Nm (b = false) (b = false) := ⟨id⟩
instance (priority := 2000) {b : Bool} {q : Prop} [h : Nm (b = false) q] : Nm (b = !true) q := ⟨h.out⟩
instance (priority := 2000) {b : Bool} {q : Prop} [h : Nm (b = true) q] : Nm (b = !false) q := ⟨h.out⟩
instance (priority := 1000) {b : Bool} {q : Prop} [h : Nm (b = false) q] : Nm ((!b) = true) q := ⟨fun e => h.out (by cases b <;> simp_all)⟩
instance (priority := 1000) {b : Bool} {q : Prop} [h : Nm (b = true) q] : Nm ((!b) = false) q := ⟨fun e => h.out (by cases b <;> simp_all)⟩
instance (priority := 500) {p : Prop} [Decidable p] : Nm (decide p = true) p := ⟨of_decide_eq_true⟩
instance (priority := 500) {p : Prop} [Decidable p] : Nm (decide p = false) (¬ p) := ⟨of_decide_eq_false⟩
instance (priority := 600) {a b : Int} [Decidable (a ≤ b)] : Nm (decide (a ≤ b) = false) (b < a) := ⟨fun e => Int.not_le.mp (of_decide_eq_false e)⟩
instance (priority := 600) {a b : Int} [Decidable (a < b)] : Nm (decide (a < b) = false) (b ≤ a) := ⟨fun e => Int.not_lt.mp (of_decide_eq_false e)⟩
instance (priority := 500) {α : Type} [BEq α] [LawfulBEq α] {a b : α} : Nm ((a == b) = true) (a = b) := ⟨eq_of_beq⟩
instance (priority := 500) {α : Type} [BEq α] [LawfulBEq α] {a b : α} : Nm ((a == b) = false) (¬ a = b) := ⟨fun e h => by subst h; simp at e⟩
instance (priority := 500) {α : Type} [BEq α] [LawfulBEq α] {a b : α} : Nm ((a != b) = true) (¬ a = b) := ⟨fun e h => by subst h; simp at e⟩
instance (priority := 500) {α : Type} [BEq α] [LawfulBEq α] {a b : α} : Nm ((a != b) = false) (a = b) := ⟨fun e => by simpa using e⟩
theorem ga {w : Bool} {A B : Prop} (h : A) : (w = w → A) ∧ (w = !w → B) := ⟨fun _ => h, fun e => absurd e (by cases w <;> decide)⟩
theorem gb {w : Bool} {A B : Prop} (h : B) : ((!w) = w → A) ∧ ((!w) = !w → B) := ⟨fun e => absurd e (by cases w <;> decide), fun _ => h⟩
theorem gc {A B : Prop} (h : B) : (true = false → A) ∧ (true = !false → B) := ⟨fun e => absurd e (by decide), fun _ => h⟩
theorem gd {A B : Prop} (h : B) : (false = true → A) ∧ (false = !true → B) := ⟨fun e => absurd e (by decide), fun _ => h⟩
theorem ge {A B : Prop} (h : A) : ((!true) = false → A) ∧ ((!true) = !false → B) := ⟨fun _ => h, fun e => absurd e (by decide)⟩
theorem gf {A B : Prop} (h : A) : ((!false) = true → A) ∧ ((!false) = !true → B) := ⟨fun _ => h, fun e => absurd e (by decide)⟩
theorem gg {A B : Prop} (h : A) : (true = true → A) ∧ (true = false → B) := ⟨fun _ => h, fun e => absurd e (by decide)⟩
theorem gh {A B : Prop} (h : B) : (false = true → A) ∧ (false = false → B) := ⟨fun e => absurd e (by decide), fun _ => h⟩
theorem gi {A B : Prop} (h : B) : ((!true) = true → A) ∧ ((!true) = false → B) := ⟨fun e => absurd e (by decide), fun _ => h⟩
theorem gj {A B : Prop} (h : A) : ((!false) = true → A) ∧ ((!false) = false → B) := ⟨fun _ => h, fun e => absurd e (by decide)⟩
theorem lib_call {P : Program} {f : FuncId} {args : List AV} {r : AV} (xs : Array Value) (y : Value) (hen : enters P f = true) (hx : ∀ w M (ys : Array Value), ArgsAre noNames w M args ys → ys = xs)
    (hc : ∀ w, (∀ g, P.globalNamed "internal/strconv.uint64pow10" = some g → Lib.TabIs P w "internal/strconv.uint64pow10" .u64 Lib.pow10Tab) → Calls P f xs w fun e w' => e = .returned y ∧ Below w.heap.size w w')
    (hr : ∀ φ w M, Ra φ w M r y) : PureCall P f args r := by
  unfold PureCall
  refine ⟨hen, fun w M ys _ henv ha => ?_⟩
  obtain rfl := hx w M ys ha
  refine (hc w fun g hg => (henv g hg).2.2).mono fun e w' hq => ?_
  obtain ⟨rfl, hb⟩ := hq
  exact ⟨y, rfl, hb.os, hb.tape, hb.output, hb.size, hb.block, hr _ _ _⟩

theorem args1 {w : World} {M : Blocks} {a : AV} {x : Value} {ys : Array Value} (h : ArgsAre noNames w M [a] ys) (hx : ∀ v, Ra noNames w M a v → v = x) : ys = #[x] := by
  obtain ⟨h1, h2⟩ := h
  have := hx _ (h2 0 (by simp))
  apply Array.ext
  · simpa using h1
  · intro i hi _
    have hi0 : i = 0 := by simp at h1; omega
    subst hi0
    simpa [Array.getD_eq_getD_getElem?, hi] using this
theorem args2 {w : World} {M : Blocks} {a b : AV} {x y : Value} {ys : Array Value} (h : ArgsAre noNames w M [a, b] ys) (hx : ∀ v, Ra noNames w M a v → v = x) (hy : ∀ v, Ra noNames w M b v → v = y) : ys = #[x, y] := by
  obtain ⟨h1, h2⟩ := h
  have e1 := hx _ (h2 0 (by simp))
  have e2 := hy _ (h2 1 (by simp))
  simp only [List.length_cons, List.length_nil] at h1
  apply Array.ext
  · simpa using h1
  · intro i hi _
    rcases (by omega : i = 0 ∨ i = 1) with rfl | rfl
    · simpa [Array.getD_eq_getD_getElem?, hi] using e1
    · simpa [Array.getD_eq_getD_getElem?, hi] using e2

theorem table0 : (Tryd.prog.globalNamed "internal/strconv.uint64pow10").isSome = true := by kernel_rfl
theorem table : ∃ g, Tryd.prog.globalNamed "internal/strconv.uint64pow10" = some g := Option.isSome_iff_exists.mp table0

theorem below_grow {w : World} {k : Nat} {os : Array Obj} : Below w.heap.size w (Sort.grow (w.drewN k) os) :=
  ⟨rfl, rfl, rfl, by simp [Sort.grow], fun i hi => by simp [Sort.grow, Array.getElem?_append, hi]⟩

theorem f57 (n : Int) (h : inI64 n) : PureCall Tryd.prog 57 [i64 n] (st (Lib.itoa n)) := by
  refine lib_call #[.int .i64 n] (.string ⟨(Lib.itoa n).toArray⟩) (by kernel_rfl) (fun w M ys ha => args1 ha fun v hv => hv.int) (fun w ht => ?_) (fun φ w M => .pv _ _ (.str _))
  obtain ⟨g, hg⟩ := table
  refine (Tryd.strconv_Itoa n h.1 h.2 w (ht g hg)).mono fun e w' hq => ?_
  obtain ⟨rfl, k, os, rfl⟩ := hq
  exact ⟨rfl, below_grow⟩

theorem f53 (s : List UInt8) (hs : s.length ≤ 281474976710656) : PureCall Tryd.prog 53 [st s] (st s) := by
  refine lib_call #[.string ⟨s.toArray⟩] (.string ⟨s.toArray⟩) (by kernel_rfl) (fun w M ys ha => args1 ha fun v hv => hv.str) (fun w _ => ?_) (fun φ w M => .pv _ _ (.str _))
  exact (Tryd.stringslite_Clone ⟨s.toArray⟩ w (by simpa [ByteArray.size] using hs)).mono fun e w' hq => hq

theorem f60 (s : List UInt8) (c : UInt8) : PureCall Tryd.prog 60 [st s, st [c]] (i64 (Lib.indexByte s c)) := by
  refine lib_call #[.string ⟨s.toArray⟩, .string ⟨#[c]⟩] (.int .i64 (Lib.indexByte s c)) (by kernel_rfl) (fun w M ys ha => args2 ha (fun v hv => hv.str) (fun v hv => hv.str)) (fun w _ => ?_) (fun φ w M => .pv _ _ (.int _ _))
  refine (Tryd.stringslite_Index_one ⟨s.toArray⟩ c w).mono fun e w' hq => ?_
  obtain ⟨rfl, rfl⟩ := hq
  exact ⟨by simp, Below.refl _ _⟩

theorem f41 (s : List UInt8) (hs : s.length ≤ 281474976710656) : PureCall Tryd.prog 41 [st s] (st s) := by
  refine PureCall.run tab_ok mixed (by kernel_rfl) Tryd.func41 rfl rfl rfl ?_
  conv => whnf
  refine CallK.flat [] (f53 s hs) ⟨.same, trivial⟩ rfl ?_
  conv => whnf
  exact ⟨[], .same⟩

/-- Before the first c, and behind it. -/
def bef (c : UInt8) (s : List UInt8) : List UInt8 := s.takeWhile (· != c)
def aft (c : UInt8) (s : List UInt8) : List UInt8 := (s.dropWhile (· != c)).drop 1
theorem index_bef (c : UInt8) : ∀ s : List UInt8, (Lib.indexByte s c = -1 ∧ bef c s = s ∧ aft c s = [] ∧ s.contains c = false) ∨
    (Lib.indexByte s c = (bef c s).length ∧ (bef c s).length < s.length ∧ s.take (bef c s).length = bef c s ∧ s.drop ((bef c s).length + 1) = aft c s ∧ s.contains c = true)
  | [] => .inl ⟨rfl, rfl, rfl, rfl⟩
  | b :: s => by
    by_cases hb : b = c
    · subst hb
      refine .inr ⟨?_, ?_, ?_, ?_, ?_⟩ <;> simp [bef, aft, Lib.indexByte]
    · have hne : (b == c) = false := by simpa using hb
      have hcb : (c == b) = false := by simpa using Ne.symm hb
      rcases index_bef c s with ⟨h1, h2, h3, h4⟩ | ⟨h1, h2, h3, h4, h5⟩
      · refine .inl ⟨?_, ?_, ?_, ?_⟩
        · simp [Lib.indexByte, h1, hb]
        · simp only [bef] at h2 ⊢; simp [hb, h2]
        · simp only [aft] at h3 ⊢; simpa [hb] using h3
        · simp only [List.contains_cons, hcb, h4, Bool.or_self]
      · have hbef : bef c (b :: s) = b :: bef c s := by simp [bef, hb]
        have haft : aft c (b :: s) = aft c s := by simp [aft, hb]
        refine .inr ⟨?_, ?_, ?_, ?_, ?_⟩
        · rw [hbef]
          have : ¬ (((bef c s).length : Int) = -1) := by omega
          simp [Lib.indexByte, h1, hb, this]
        · rw [hbef]; simpa using h2
        · rw [hbef]; simp [h3]
        · rw [hbef, haft]; simpa using h4
        · simp only [List.contains_cons, hcb, h5, Bool.or_true]

end Go.Proofs.YtdoeiccibhabcaaDoor

namespace Go.Proofs.YtdoeiccibhabcaaDoor
open Go Go.AM
attribute [local irreducible] AWP CallK PureCall SubS HeapCall
def ch (c : UInt8) : AV := u8 c.toNat
def letter (c : UInt8) : Bool := decide ((65 : Int) ≤ c.toNat) && decide ((c.toNat : Int) ≤ 90)
def digit (c : UInt8) : Bool := decide ((48 : Int) ≤ c.toNat) && decide ((c.toNat : Int) ≤ 57)
def inner (c : UInt8) : Bool := letter c || digit c || ((c.toNat : Int) == 95)
def blank (c : UInt8) : Bool := ((c.toNat : Int) == 32) || ((c.toNat : Int) == 9)
theorem f37 (c : UInt8) : PureCall Tryd.prog 37 [ch c] (bb (letter c)) := by
  refine PureCall.run tab_ok mixed (by kernel_rfl) Tryd.func37 rfl rfl rfl ?_
  conv => whnf
  repeat (first | ((with_reducible first | apply ga | apply gb | apply gc | apply gd | apply ge | apply gf | apply gg | apply gh | apply gi | apply gj); conv => whnf) | (refine ⟨⟨rfl, rfl, nle rfl, nle rfl⟩, ?_⟩; conv => whnf) | fail)
  repeat' (first | ((with_reducible first | apply ga | apply gb | apply gc | apply gd | apply ge | apply gf | apply gg | apply gh | apply gi | apply gj); conv => whnf) | (refine ⟨fun hc => ?_, fun hc => ?_⟩ <;> (conv => whnf)) | fail)
  all_goals (refine done_bool _ _ rfl rfl ?_; simp_all [letter]; try omega)
theorem f39 (c : UInt8) : PureCall Tryd.prog 39 [ch c] (bb (letter c)) := by
  refine PureCall.run tab_ok mixed (by kernel_rfl) Tryd.func39 rfl rfl rfl ?_
  conv => whnf
  repeat (first | ((with_reducible first | apply ga | apply gb | apply gc | apply gd | apply ge | apply gf | apply gg | apply gh | apply gi | apply gj); conv => whnf) | (refine ⟨⟨rfl, rfl, nle rfl, nle rfl⟩, ?_⟩; conv => whnf) | fail)
  repeat' (first | ((with_reducible first | apply ga | apply gb | apply gc | apply gd | apply ge | apply gf | apply gg | apply gh | apply gi | apply gj); conv => whnf) | (refine ⟨fun hc => ?_, fun hc => ?_⟩ <;> (conv => whnf)) | fail)
  all_goals (refine done_bool _ _ rfl rfl ?_; simp_all [letter]; try omega)
theorem f43 (c : UInt8) : PureCall Tryd.prog 43 [ch c] (bb (blank c)) := by
  refine PureCall.run tab_ok mixed (by kernel_rfl) Tryd.func43 rfl rfl rfl ?_
  conv => whnf
  repeat (first | ((with_reducible first | apply ga | apply gb | apply gc | apply gd | apply ge | apply gf | apply gg | apply gh | apply gi | apply gj); conv => whnf) | (refine ⟨⟨rfl, rfl, nle rfl, nle rfl⟩, ?_⟩; conv => whnf) | fail)
  repeat' (first | ((with_reducible first | apply ga | apply gb | apply gc | apply gd | apply ge | apply gf | apply gg | apply gh | apply gi | apply gj); conv => whnf) | (refine ⟨fun hc => ?_, fun hc => ?_⟩ <;> (conv => whnf)) | fail)
  all_goals (refine done_bool _ _ rfl rfl ?_; simp_all [blank]; try omega)
theorem f56 (c : UInt8) : PureCall Tryd.prog 56 [ch c] (bb (blank c)) := by
  refine PureCall.run tab_ok mixed (by kernel_rfl) Tryd.func56 rfl rfl rfl ?_
  conv => whnf
  repeat (first | ((with_reducible first | apply ga | apply gb | apply gc | apply gd | apply ge | apply gf | apply gg | apply gh | apply gi | apply gj); conv => whnf) | (refine ⟨⟨rfl, rfl, nle rfl, nle rfl⟩, ?_⟩; conv => whnf) | fail)
  repeat' (first | ((with_reducible first | apply ga | apply gb | apply gc | apply gd | apply ge | apply gf | apply gg | apply gh | apply gi | apply gj); conv => whnf) | (refine ⟨fun hc => ?_, fun hc => ?_⟩ <;> (conv => whnf)) | fail)
  all_goals (refine done_bool _ _ rfl rfl ?_; simp_all [blank]; try omega)
theorem f52 (c : UInt8) : PureCall Tryd.prog 52 [ch c] (bb (inner c)) := by
  refine PureCall.run tab_ok mixed (by kernel_rfl) Tryd.func52 rfl rfl rfl ?_
  conv => whnf
  repeat (first | ((with_reducible first | apply ga | apply gb | apply gc | apply gd | apply ge | apply gf | apply gg | apply gh | apply gi | apply gj); conv => whnf) | (refine ⟨⟨rfl, rfl, nle rfl, nle rfl⟩, ?_⟩; conv => whnf) | fail)
  refine CallK.flat [] (f37 c) ⟨.same, trivial⟩ rfl ?_
  conv => whnf
  repeat (first | ((with_reducible first | apply ga | apply gb | apply gc | apply gd | apply ge | apply gf | apply gg | apply gh | apply gi | apply gj); conv => whnf) | (refine ⟨⟨rfl, rfl, nle rfl, nle rfl⟩, ?_⟩; conv => whnf) | fail)
  repeat' (first | ((with_reducible first | apply ga | apply gb | apply gc | apply gd | apply ge | apply gf | apply gg | apply gh | apply gi | apply gj); conv => whnf) | (refine ⟨fun hc => ?_, fun hc => ?_⟩ <;> (conv => whnf)) | fail)
  all_goals (refine done_bool _ _ rfl rfl ?_; simp_all [inner, digit]; try omega)
theorem f40 (c : UInt8) : PureCall Tryd.prog 40 [ch c] (bb (inner c)) := by
  refine PureCall.run tab_ok mixed (by kernel_rfl) Tryd.func40 rfl rfl rfl ?_
  conv => whnf
  repeat (first | ((with_reducible first | apply ga | apply gb | apply gc | apply gd | apply ge | apply gf | apply gg | apply gh | apply gi | apply gj); conv => whnf) | (refine ⟨⟨rfl, rfl, nle rfl, nle rfl⟩, ?_⟩; conv => whnf) | fail)
  refine CallK.flat [] (f39 c) ⟨.same, trivial⟩ rfl ?_
  conv => whnf
  repeat (first | ((with_reducible first | apply ga | apply gb | apply gc | apply gd | apply ge | apply gf | apply gg | apply gh | apply gi | apply gj); conv => whnf) | (refine ⟨⟨rfl, rfl, nle rfl, nle rfl⟩, ?_⟩; conv => whnf) | fail)
  repeat' (first | ((with_reducible first | apply ga | apply gb | apply gc | apply gd | apply ge | apply gf | apply gg | apply gh | apply gi | apply gj); conv => whnf) | (refine ⟨fun hc => ?_, fun hc => ?_⟩ <;> (conv => whnf)) | fail)
  all_goals (refine done_bool _ _ rfl rfl ?_; simp_all [inner, digit]; try omega)
theorem prefix_eq {p s : List UInt8} : (s.take p.length == p) = p.isPrefixOf s := by
  rw [Bool.eq_iff_iff, List.isPrefixOf_iff_prefix, beq_iff_eq, List.prefix_iff_eq_take]
  exact eq_comm
theorem prefix_no {p s : List UInt8} (h : s.length < p.length) : p.isPrefixOf s = false := by
  rw [Bool.eq_false_iff, ne_eq, List.isPrefixOf_iff_prefix]
  intro hp
  have := hp.length_le
  omega
theorem f51 (s p : List UInt8) : PureCall Tryd.prog 51 [st s, st p] (bb (p.isPrefixOf s)) := by
  refine PureCall.run tab_ok mixed (by kernel_rfl) Tryd.func51 rfl rfl rfl ?_
  conv => whnf
  repeat (first | ((with_reducible first | apply ga | apply gb | apply gc | apply gd | apply ge | apply gf | apply gg | apply gh | apply gi | apply gj); conv => whnf) | (refine ⟨⟨rfl, rfl, nle rfl, nle rfl⟩, ?_⟩; conv => whnf) | fail)
  refine ⟨fun hc => ?_, fun hc => ?_⟩ <;> replace hc := nm hc <;> (try simp only [Int.toNat_zero] at hc) <;> (try simp only [Int.toNat_one] at hc)
  · conv => whnf
    repeat (first | ((with_reducible first | apply ga | apply gb | apply gc | apply gd | apply ge | apply gf | apply gg | apply gh | apply gi | apply gj); conv => whnf) | (refine ⟨⟨rfl, rfl, nle rfl, nle rfl⟩, ?_⟩; conv => whnf) | fail)
    refine ⟨⟨by omega, by omega⟩, ?_⟩
    conv => whnf
    repeat (first | ((with_reducible first | apply ga | apply gb | apply gc | apply gd | apply ge | apply gf | apply gg | apply gh | apply gi | apply gj); conv => whnf) | (refine ⟨⟨rfl, rfl, nle rfl, nle rfl⟩, ?_⟩; conv => whnf) | fail)
    refine done_bool _ _ rfl rfl ?_
    exact prefix_eq
  · conv => whnf
    repeat (first | ((with_reducible first | apply ga | apply gb | apply gc | apply gd | apply ge | apply gf | apply gg | apply gh | apply gi | apply gj); conv => whnf) | (refine ⟨⟨rfl, rfl, nle rfl, nle rfl⟩, ?_⟩; conv => whnf) | fail)
    refine done_bool _ _ rfl rfl ?_
    exact (prefix_no (by omega)).symm
theorem f35 (s p : List UInt8) : PureCall Tryd.prog 35 [st s, st p] (bb (p.isPrefixOf s)) := by
  refine PureCall.run tab_ok mixed (by kernel_rfl) Tryd.func35 rfl rfl rfl ?_
  conv => whnf
  repeat (first | ((with_reducible first | apply ga | apply gb | apply gc | apply gd | apply ge | apply gf | apply gg | apply gh | apply gi | apply gj); conv => whnf) | (refine ⟨⟨rfl, rfl, nle rfl, nle rfl⟩, ?_⟩; conv => whnf) | fail)
  refine CallK.flat [] (f51 s p) ⟨.same, .same, trivial⟩ rfl ?_
  conv => whnf
  repeat (first | ((with_reducible first | apply ga | apply gb | apply gc | apply gd | apply ge | apply gf | apply gg | apply gh | apply gi | apply gj); conv => whnf) | (refine ⟨⟨rfl, rfl, nle rfl, nle rfl⟩, ?_⟩; conv => whnf) | fail)
  exact done_bool _ _ rfl rfl rfl
/-- What is behind the first bytes, where these are p. -/
def cutP (p s : List UInt8) : List UInt8 := if p.isPrefixOf s then s.drop p.length else s
theorem f50 (s p : List UInt8) : PureCall Tryd.prog 50 [st s, st p] (tupV [st (cutP p s), bb (p.isPrefixOf s)]) := by
  refine PureCall.run tab_ok mixed (by kernel_rfl) Tryd.func50 rfl rfl rfl ?_
  conv => whnf
  repeat (first | ((with_reducible first | apply ga | apply gb | apply gc | apply gd | apply ge | apply gf | apply gg | apply gh | apply gi | apply gj); conv => whnf) | (refine ⟨⟨rfl, rfl, nle rfl, nle rfl⟩, ?_⟩; conv => whnf) | fail)
  refine CallK.flat [] (f51 s p) ⟨.same, .same, trivial⟩ rfl ?_
  conv => whnf
  repeat (first | ((with_reducible first | apply ga | apply gb | apply gc | apply gd | apply ge | apply gf | apply gg | apply gh | apply gi | apply gj); conv => whnf) | (refine ⟨⟨rfl, rfl, nle rfl, nle rfl⟩, ?_⟩; conv => whnf) | fail)
  refine ⟨fun hc => ?_, fun hc => ?_⟩ <;> replace hc := nm hc <;> (try simp only [Int.toNat_zero] at hc) <;> (try simp only [Int.toNat_one] at hc)
  · conv => whnf
    repeat (first | ((with_reducible first | apply ga | apply gb | apply gc | apply gd | apply ge | apply gf | apply gg | apply gh | apply gi | apply gj); conv => whnf) | (refine ⟨⟨rfl, rfl, nle rfl, nle rfl⟩, ?_⟩; conv => whnf) | fail)
    refine done_tup [_, _] [] rfl ⟨?_, ?_, trivial⟩
    · simp only [cutP, hc]; exact .same
    · rw [hc]; exact .same
  · conv => whnf
    repeat (first | ((with_reducible first | apply ga | apply gb | apply gc | apply gd | apply ge | apply gf | apply gg | apply gh | apply gi | apply gj); conv => whnf) | (refine ⟨⟨rfl, rfl, nle rfl, nle rfl⟩, ?_⟩; conv => whnf) | fail)
    have hl : p.length ≤ s.length := (List.isPrefixOf_iff_prefix.mp hc).length_le
    refine ⟨⟨by omega, by omega⟩, ?_⟩
    conv => whnf
    repeat (first | ((with_reducible first | apply ga | apply gb | apply gc | apply gd | apply ge | apply gf | apply gg | apply gh | apply gi | apply gj); conv => whnf) | (refine ⟨⟨rfl, rfl, nle rfl, nle rfl⟩, ?_⟩; conv => whnf) | fail)
    refine done_tup [_, _] [] rfl ⟨?_, ?_, trivial⟩
    · simp only [cutP, hc]; exact .same
    · rw [hc]; exact .same
theorem f33 (s p : List UInt8) : PureCall Tryd.prog 33 [st s, st p] (tupV [st (cutP p s), bb (p.isPrefixOf s)]) := by
  refine PureCall.run tab_ok mixed (by kernel_rfl) Tryd.func33 rfl rfl rfl ?_
  conv => whnf
  repeat (first | ((with_reducible first | apply ga | apply gb | apply gc | apply gd | apply ge | apply gf | apply gg | apply gh | apply gi | apply gj); conv => whnf) | (refine ⟨⟨rfl, rfl, nle rfl, nle rfl⟩, ?_⟩; conv => whnf) | fail)
  refine CallK.flat [] (f50 s p) ⟨.same, .same, trivial⟩ rfl ?_
  conv => whnf
  repeat (first | ((with_reducible first | apply ga | apply gb | apply gc | apply gd | apply ge | apply gf | apply gg | apply gh | apply gi | apply gj); conv => whnf) | (refine ⟨⟨rfl, rfl, nle rfl, nle rfl⟩, ?_⟩; conv => whnf) | fail)
  exact done_tup [_, _] [] rfl ⟨.same, .same, trivial⟩
end Go.Proofs.YtdoeiccibhabcaaDoor

namespace Go.Proofs.YtdoeiccibhabcaaDoor
open Go Go.AM
attribute [local irreducible] AWP CallK PureCall SubS HeapCall
theorem tw_lt {p : UInt8 → Bool} : ∀ {s : List UInt8} {i : Nat}, i < (s.takeWhile p).length → i < s.length ∧ p (s.getD i 0) = true := by
  intro s
  induction s with
  | nil => intro i h; simp at h
  | cons c s ih =>
    intro i h
    cases hp : p c with
    | false => simp [hp] at h
    | true =>
      simp only [List.takeWhile_cons, hp, if_true, List.length_cons] at h
      cases i with
      | zero => simp [hp]
      | succ i =>
        have := ih (i := i) (by omega)
        exact ⟨by simp; omega, by simpa using this.2⟩
theorem tw_end {p : UInt8 → Bool} : ∀ {s : List UInt8}, (s.takeWhile p).length < s.length → p (s.getD (s.takeWhile p).length 0) = false := by
  intro s
  induction s with
  | nil => intro h; simp at h
  | cons c s ih =>
    intro h
    cases hp : p c with
    | false => simp [hp]
    | true =>
      simp only [List.takeWhile_cons, hp, if_true, List.length_cons] at h ⊢
      have := ih (by omega)
      simpa using this
theorem tw_le {p : UInt8 → Bool} (s : List UInt8) : (s.takeWhile p).length ≤ s.length := (List.takeWhile_prefix p).length_le
/-- How many bytes at the beginning may stand in a name. -/
def nameLen (s : List UInt8) : Nat := (s.takeWhile inner).length
def B62 (s : List UInt8) : Prop := s.length < 2 ^ 62
theorem f38 (s : List UInt8) (hs : B62 s) : PureCall Tryd.prog 38 [st s] (i64 (nameLen s)) := by
  unfold B62 at hs
  refine PureCall.run tab_ok mixed (by kernel_rfl) Tryd.func38 rfl rfl rfl ?_
  conv => whnf
  repeat (first | ((with_reducible first | apply ga | apply gb | apply gc | apply gd | apply ge | apply gf | apply gg | apply gh | apply gi | apply gj); conv => whnf) | (refine ⟨⟨rfl, rfl, nle rfl, nle rfl⟩, ?_⟩; conv => whnf) | fail)
  refine ex_loop tab_ok mixed (fun i => i ≤ nameLen s) (fun i : Nat => mkSt 17 [(0, st s), (3, i64 i)] []) (fun i => s.length - i) 0 (Nat.zero_le _) (SubS.mk [] rfl ⟨⟨_, rfl, .same⟩, ⟨_, rfl, .same⟩, trivial⟩ trivial) fun i hi => ?_
  have hm := tw_le (p := inner) s
  unfold nameLen at hi
  conv => whnf
  repeat (first | ((with_reducible first | apply ga | apply gb | apply gc | apply gd | apply ge | apply gf | apply gg | apply gh | apply gi | apply gj); conv => whnf) | (refine ⟨⟨rfl, rfl, nle rfl, nle rfl⟩, ?_⟩; conv => whnf) | fail)
  refine ⟨fun hc => ?_, fun hc => ?_⟩ <;> replace hc := nm hc <;> (try simp only [Int.toNat_zero] at hc) <;> (try simp only [Int.toNat_one] at hc)
  · conv => whnf
    repeat (first | ((with_reducible first | apply ga | apply gb | apply gc | apply gd | apply ge | apply gf | apply gg | apply gh | apply gi | apply gj); conv => whnf) | (refine ⟨⟨rfl, rfl, nle rfl, nle rfl⟩, ?_⟩; conv => whnf) | fail)
    refine ⟨⟨by omega, by omega⟩, ?_⟩
    conv => whnf
    repeat (first | ((with_reducible first | apply ga | apply gb | apply gc | apply gd | apply ge | apply gf | apply gg | apply gh | apply gi | apply gj); conv => whnf) | (refine ⟨⟨rfl, rfl, nle rfl, nle rfl⟩, ?_⟩; conv => whnf) | fail)
    refine CallK.flat [] (f52 (s.getD i 0)) ⟨.same, trivial⟩ rfl ?_
    conv => whnf
    repeat (first | ((with_reducible first | apply ga | apply gb | apply gc | apply gd | apply ge | apply gf | apply gg | apply gh | apply gi | apply gj); conv => whnf) | (refine ⟨⟨rfl, rfl, nle rfl, nle rfl⟩, ?_⟩; conv => whnf) | fail)
    refine ⟨fun hb => ?_, fun hb => ?_⟩ <;> replace hb := nm hb <;> (try simp only [Int.toNat_zero] at hb) <;> (try simp only [Int.toNat_one] at hb)
    · conv => whnf
      repeat (first | ((with_reducible first | apply ga | apply gb | apply gc | apply gd | apply ge | apply gf | apply gg | apply gh | apply gi | apply gj); conv => whnf) | (refine ⟨⟨rfl, rfl, nle rfl, nle rfl⟩, ?_⟩; conv => whnf) | fail)
      have hlt : i < (s.takeWhile inner).length := by
        rcases Nat.lt_or_ge i (s.takeWhile inner).length with h | h
        · exact h
        · have he : i = (s.takeWhile inner).length := by omega
          have := tw_end (p := inner) (s := s) (by omega)
          rw [← he, hb] at this; cases this
      refine ⟨⟨by unfold inI64; omega⟩, ?_⟩
      conv => whnf
      repeat (first | ((with_reducible first | apply ga | apply gb | apply gc | apply gd | apply ge | apply gf | apply gg | apply gh | apply gi | apply gj); conv => whnf) | (refine ⟨⟨rfl, rfl, nle rfl, nle rfl⟩, ?_⟩; conv => whnf) | fail)
      exact ⟨i + 1, hlt, SubS.mk [] rfl ⟨⟨_, rfl, .same⟩, ⟨_, rfl, .same⟩, trivial⟩ trivial, by omega⟩
    · conv => whnf
      repeat (first | ((with_reducible first | apply ga | apply gb | apply gc | apply gd | apply ge | apply gf | apply gg | apply gh | apply gi | apply gj); conv => whnf) | (refine ⟨⟨rfl, rfl, nle rfl, nle rfl⟩, ?_⟩; conv => whnf) | fail)
      refine done_int _ _ _ rfl rfl ?_
      have : ¬ i < (s.takeWhile inner).length := fun h => by rw [(tw_lt h).2] at hb; cases hb
      unfold nameLen; omega
  · conv => whnf
    repeat (first | ((with_reducible first | apply ga | apply gb | apply gc | apply gd | apply ge | apply gf | apply gg | apply gh | apply gi | apply gj); conv => whnf) | (refine ⟨⟨rfl, rfl, nle rfl, nle rfl⟩, ?_⟩; conv => whnf) | fail)
    refine done_int _ _ _ rfl rfl ?_
    unfold nameLen; omega
def isName (s : List UInt8) : Bool := decide ((1 : Int) ≤ s.length) && decide ((s.length : Int) ≤ 8) && letter (s.getD 0 0) && ((nameLen s : Int) == s.length)
theorem f16 (s : List UInt8) (hs : B62 s) : PureCall Tryd.prog 16 [st s] (bb (isName s)) := by
  refine PureCall.run tab_ok mixed (by kernel_rfl) Tryd.func16 rfl rfl rfl ?_
  conv => whnf
  repeat (first | ((with_reducible first | apply ga | apply gb | apply gc | apply gd | apply ge | apply gf | apply gg | apply gh | apply gi | apply gj); conv => whnf) | (refine ⟨⟨rfl, rfl, nle rfl, nle rfl⟩, ?_⟩; conv => whnf) | fail)
  refine ⟨fun hc => ?_, fun hc => ?_⟩ <;> replace hc := nm hc <;> (try simp only [Int.toNat_zero] at hc) <;> (try simp only [Int.toNat_one] at hc)
  · conv => whnf
    repeat (first | ((with_reducible first | apply ga | apply gb | apply gc | apply gd | apply ge | apply gf | apply gg | apply gh | apply gi | apply gj); conv => whnf) | (refine ⟨⟨rfl, rfl, nle rfl, nle rfl⟩, ?_⟩; conv => whnf) | fail)
    refine ⟨fun h2 => ?_, fun h2 => ?_⟩ <;> replace h2 := nm h2 <;> (try simp only [Int.toNat_zero] at h2) <;> (try simp only [Int.toNat_one] at h2)
    · conv => whnf
      repeat (first | ((with_reducible first | apply ga | apply gb | apply gc | apply gd | apply ge | apply gf | apply gg | apply gh | apply gi | apply gj); conv => whnf) | (refine ⟨⟨rfl, rfl, nle rfl, nle rfl⟩, ?_⟩; conv => whnf) | fail)
      refine ⟨⟨by omega, by omega⟩, ?_⟩
      conv => whnf
      repeat (first | ((with_reducible first | apply ga | apply gb | apply gc | apply gd | apply ge | apply gf | apply gg | apply gh | apply gi | apply gj); conv => whnf) | (refine ⟨⟨rfl, rfl, nle rfl, nle rfl⟩, ?_⟩; conv => whnf) | fail)
      refine CallK.flat [] (f37 (s.getD 0 0)) ⟨.same, trivial⟩ rfl ?_
      conv => whnf
      repeat (first | ((with_reducible first | apply ga | apply gb | apply gc | apply gd | apply ge | apply gf | apply gg | apply gh | apply gi | apply gj); conv => whnf) | (refine ⟨⟨rfl, rfl, nle rfl, nle rfl⟩, ?_⟩; conv => whnf) | fail)
      refine ⟨fun h3 => ?_, fun h3 => ?_⟩ <;> replace h3 := nm h3 <;> (try simp only [Int.toNat_zero] at h3) <;> (try simp only [Int.toNat_one] at h3)
      · conv => whnf
        repeat (first | ((with_reducible first | apply ga | apply gb | apply gc | apply gd | apply ge | apply gf | apply gg | apply gh | apply gi | apply gj); conv => whnf) | (refine ⟨⟨rfl, rfl, nle rfl, nle rfl⟩, ?_⟩; conv => whnf) | fail)
        refine CallK.flat [] (f38 s hs) ⟨.same, trivial⟩ rfl ?_
        conv => whnf
        repeat (first | ((with_reducible first | apply ga | apply gb | apply gc | apply gd | apply ge | apply gf | apply gg | apply gh | apply gi | apply gj); conv => whnf) | (refine ⟨⟨rfl, rfl, nle rfl, nle rfl⟩, ?_⟩; conv => whnf) | fail)
        refine done_bool _ _ rfl rfl ?_
        simp only [isName, h3, decide_eq_true hc, decide_eq_true h2, Bool.true_and]
      · conv => whnf
        repeat (first | ((with_reducible first | apply ga | apply gb | apply gc | apply gd | apply ge | apply gf | apply gg | apply gh | apply gi | apply gj); conv => whnf) | (refine ⟨⟨rfl, rfl, nle rfl, nle rfl⟩, ?_⟩; conv => whnf) | fail)
        refine done_bool _ _ rfl rfl ?_
        simp only [isName, h3, Bool.and_false, Bool.false_and]
    · conv => whnf
      repeat (first | ((with_reducible first | apply ga | apply gb | apply gc | apply gd | apply ge | apply gf | apply gg | apply gh | apply gi | apply gj); conv => whnf) | (refine ⟨⟨rfl, rfl, nle rfl, nle rfl⟩, ?_⟩; conv => whnf) | fail)
      refine done_bool _ _ rfl rfl ?_
      simp [isName]; omega
  · conv => whnf
    repeat (first | ((with_reducible first | apply ga | apply gb | apply gc | apply gd | apply ge | apply gf | apply gg | apply gh | apply gi | apply gj); conv => whnf) | (refine ⟨⟨rfl, rfl, nle rfl, nle rfl⟩, ?_⟩; conv => whnf) | fail)
    refine done_bool _ _ rfl rfl ?_
    simp [isName]; omega
theorem f17 (s : List UInt8) (hs : B62 s) : PureCall Tryd.prog 17 [st s] (bb (isName s)) := by
  unfold B62 at hs
  refine PureCall.run tab_ok mixed (by kernel_rfl) Tryd.func17 rfl rfl rfl ?_
  conv => whnf
  repeat (first | ((with_reducible first | apply ga | apply gb | apply gc | apply gd | apply ge | apply gf | apply gg | apply gh | apply gi | apply gj); conv => whnf) | (refine ⟨⟨rfl, rfl, nle rfl, nle rfl⟩, ?_⟩; conv => whnf) | fail)
  refine ⟨fun hc => ?_, fun hc => ?_⟩ <;> replace hc := nm hc <;> (try simp only [Int.toNat_zero] at hc) <;> (try simp only [Int.toNat_one] at hc)
  · conv => whnf
    repeat (first | ((with_reducible first | apply ga | apply gb | apply gc | apply gd | apply ge | apply gf | apply gg | apply gh | apply gi | apply gj); conv => whnf) | (refine ⟨⟨rfl, rfl, nle rfl, nle rfl⟩, ?_⟩; conv => whnf) | fail)
    refine ⟨fun h2 => ?_, fun h2 => ?_⟩ <;> replace h2 := nm h2 <;> (try simp only [Int.toNat_zero] at h2) <;> (try simp only [Int.toNat_one] at h2)
    · conv => whnf
      repeat (first | ((with_reducible first | apply ga | apply gb | apply gc | apply gd | apply ge | apply gf | apply gg | apply gh | apply gi | apply gj); conv => whnf) | (refine ⟨⟨rfl, rfl, nle rfl, nle rfl⟩, ?_⟩; conv => whnf) | fail)
      refine ⟨⟨by omega, by omega⟩, ?_⟩
      conv => whnf
      repeat (first | ((with_reducible first | apply ga | apply gb | apply gc | apply gd | apply ge | apply gf | apply gg | apply gh | apply gi | apply gj); conv => whnf) | (refine ⟨⟨rfl, rfl, nle rfl, nle rfl⟩, ?_⟩; conv => whnf) | fail)
      refine CallK.flat [] (f39 (s.getD 0 0)) ⟨.same, trivial⟩ rfl ?_
      conv => whnf
      repeat (first | ((with_reducible first | apply ga | apply gb | apply gc | apply gd | apply ge | apply gf | apply gg | apply gh | apply gi | apply gj); conv => whnf) | (refine ⟨⟨rfl, rfl, nle rfl, nle rfl⟩, ?_⟩; conv => whnf) | fail)
      refine ⟨fun h3 => ?_, fun h3 => ?_⟩ <;> replace h3 := nm h3 <;> (try simp only [Int.toNat_zero] at h3) <;> (try simp only [Int.toNat_one] at h3)
      · conv => whnf
        repeat (first | ((with_reducible first | apply ga | apply gb | apply gc | apply gd | apply ge | apply gf | apply gg | apply gh | apply gi | apply gj); conv => whnf) | (refine ⟨⟨rfl, rfl, nle rfl, nle rfl⟩, ?_⟩; conv => whnf) | fail)
        refine done_bool _ _ rfl rfl ?_
        simp only [isName, h3, Bool.and_false, Bool.false_and]
      · conv => whnf
        repeat (first | ((with_reducible first | apply ga | apply gb | apply gc | apply gd | apply ge | apply gf | apply gg | apply gh | apply gi | apply gj); conv => whnf) | (refine ⟨⟨rfl, rfl, nle rfl, nle rfl⟩, ?_⟩; conv => whnf) | fail)
        refine ex_loop tab_ok mixed (fun i => i ≤ nameLen s) (fun i : Nat => mkSt 29 [(0, st s), (3, i64 i)] []) (fun i => s.length - i) 0 (Nat.zero_le _) (SubS.mk [] rfl ⟨⟨_, rfl, .same⟩, ⟨_, rfl, .same⟩, trivial⟩ trivial) fun i hi => ?_
        have hm := tw_le (p := inner) s
        unfold nameLen at hi
        conv => whnf
        repeat (first | ((with_reducible first | apply ga | apply gb | apply gc | apply gd | apply ge | apply gf | apply gg | apply gh | apply gi | apply gj); conv => whnf) | (refine ⟨⟨rfl, rfl, nle rfl, nle rfl⟩, ?_⟩; conv => whnf) | fail)
        refine ⟨fun h4 => ?_, fun h4 => ?_⟩ <;> replace h4 := nm h4 <;> (try simp only [Int.toNat_zero] at h4) <;> (try simp only [Int.toNat_one] at h4)
        · conv => whnf
          repeat (first | ((with_reducible first | apply ga | apply gb | apply gc | apply gd | apply ge | apply gf | apply gg | apply gh | apply gi | apply gj); conv => whnf) | (refine ⟨⟨rfl, rfl, nle rfl, nle rfl⟩, ?_⟩; conv => whnf) | fail)
          refine ⟨⟨by omega, by omega⟩, ?_⟩
          conv => whnf
          repeat (first | ((with_reducible first | apply ga | apply gb | apply gc | apply gd | apply ge | apply gf | apply gg | apply gh | apply gi | apply gj); conv => whnf) | (refine ⟨⟨rfl, rfl, nle rfl, nle rfl⟩, ?_⟩; conv => whnf) | fail)
          refine CallK.flat [] (f40 (s.getD i 0)) ⟨.same, trivial⟩ rfl ?_
          conv => whnf
          repeat (first | ((with_reducible first | apply ga | apply gb | apply gc | apply gd | apply ge | apply gf | apply gg | apply gh | apply gi | apply gj); conv => whnf) | (refine ⟨⟨rfl, rfl, nle rfl, nle rfl⟩, ?_⟩; conv => whnf) | fail)
          refine ⟨fun hb => ?_, fun hb => ?_⟩ <;> replace hb := nm hb <;> (try simp only [Int.toNat_zero] at hb) <;> (try simp only [Int.toNat_one] at hb)
          · conv => whnf
            repeat (first | ((with_reducible first | apply ga | apply gb | apply gc | apply gd | apply ge | apply gf | apply gg | apply gh | apply gi | apply gj); conv => whnf) | (refine ⟨⟨rfl, rfl, nle rfl, nle rfl⟩, ?_⟩; conv => whnf) | fail)
            refine done_bool _ _ rfl rfl ?_
            have : ¬ i < (s.takeWhile inner).length := fun h => by rw [(tw_lt h).2] at hb; cases hb
            have : ((nameLen s : Int) == s.length) = false := by simp [nameLen]; omega
            simp only [isName, this, Bool.and_false]
          · conv => whnf
            repeat (first | ((with_reducible first | apply ga | apply gb | apply gc | apply gd | apply ge | apply gf | apply gg | apply gh | apply gi | apply gj); conv => whnf) | (refine ⟨⟨rfl, rfl, nle rfl, nle rfl⟩, ?_⟩; conv => whnf) | fail)
            have hlt : i < (s.takeWhile inner).length := by
              rcases Nat.lt_or_ge i (s.takeWhile inner).length with h | h
              · exact h
              · have he : i = (s.takeWhile inner).length := by omega
                have := tw_end (p := inner) (s := s) (by omega)
                rw [← he, hb] at this; cases this
            refine ⟨⟨by unfold inI64; omega⟩, ?_⟩
            conv => whnf
            repeat (first | ((with_reducible first | apply ga | apply gb | apply gc | apply gd | apply ge | apply gf | apply gg | apply gh | apply gi | apply gj); conv => whnf) | (refine ⟨⟨rfl, rfl, nle rfl, nle rfl⟩, ?_⟩; conv => whnf) | fail)
            exact ⟨i + 1, hlt, SubS.mk [] rfl ⟨⟨_, rfl, .same⟩, ⟨_, rfl, .same⟩, trivial⟩ trivial, by omega⟩
        · conv => whnf
          repeat (first | ((with_reducible first | apply ga | apply gb | apply gc | apply gd | apply ge | apply gf | apply gg | apply gh | apply gi | apply gj); conv => whnf) | (refine ⟨⟨rfl, rfl, nle rfl, nle rfl⟩, ?_⟩; conv => whnf) | fail)
          refine done_bool _ _ rfl rfl ?_
          have : ((nameLen s : Int) == s.length) = true := by simp [nameLen]; omega
          simp only [isName, this, h3, decide_eq_true hc, decide_eq_true h2, Bool.true_and]
    · conv => whnf
      repeat (first | ((with_reducible first | apply ga | apply gb | apply gc | apply gd | apply ge | apply gf | apply gg | apply gh | apply gi | apply gj); conv => whnf) | (refine ⟨⟨rfl, rfl, nle rfl, nle rfl⟩, ?_⟩; conv => whnf) | fail)
      refine done_bool _ _ rfl rfl ?_
      simp [isName]; omega
  · conv => whnf
    repeat (first | ((with_reducible first | apply ga | apply gb | apply gc | apply gd | apply ge | apply gf | apply gg | apply gh | apply gi | apply gj); conv => whnf) | (refine ⟨⟨rfl, rfl, nle rfl, nle rfl⟩, ?_⟩; conv => whnf) | fail)
    refine done_bool _ _ rfl rfl ?_
    simp [isName]; omega
/-- The value of digits to a base, from n on. -/
def val (base : Int) : Int → List UInt8 → Option Int
  | n, [] => some n
  | n, c :: s => if 48 ≤ (c.toNat : Int) ∧ (c.toNat : Int) - 48 < base then val base (min (n * base + ((c.toNat : Int) - 48)) 65536) s else none
theorem getD_drop {s : List UInt8} {i : Nat} (h : i < s.length) : s.drop i = s.getD i 0 :: s.drop (i + 1) := by
  rw [List.drop_eq_getElem_cons h]; simp [h]
theorem val_some {base : Int} (hb : 0 ≤ base) : ∀ {s : List UInt8} {n m : Int}, 0 ≤ n ∧ n ≤ 65536 → val base n s = some m → 0 ≤ m ∧ m ≤ 65536 := by
  intro s
  induction s with
  | nil => intro n m h e; simp only [val, Option.some.injEq] at e; omega
  | cons c s ih =>
    intro n m h e
    simp only [val] at e
    split at e
    · rename_i hc
      have := Int.mul_nonneg h.1 hb
      exact ih (by omega) e
    · cases e
def valT (o : Option Int) (ne : Bool) : AV := match o with | none => tupV [i64 0, bb false] | some n => tupV [i64 n, bb ne]
theorem f34 (s : List UInt8) (hs : B62 s) (base : Int) (hb : base = 8 ∨ base = 10) : PureCall Tryd.prog 34 [st s, i64 base] (valT (val base 0 s) (!(s == []))) := by
  unfold B62 at hs
  refine PureCall.run tab_ok mixed (by kernel_rfl) Tryd.func34 rfl rfl rfl ?_
  conv => whnf
  repeat (first | ((with_reducible first | apply ga | apply gb | apply gc | apply gd | apply ge | apply gf | apply gg | apply gh | apply gi | apply gj); conv => whnf) | (refine ⟨⟨rfl, rfl, nle rfl, nle rfl⟩, ?_⟩; conv => whnf) | fail)
  refine ex_loop tab_ok mixed (fun x : Int × Nat => x.2 ≤ s.length ∧ 0 ≤ x.1 ∧ x.1 ≤ 65536 ∧ val base 0 s = val base x.1 (s.drop x.2)) (fun x => mkSt 36 [(0, st s), (1, i64 base), (6, i64 x.1), (10, i64 s.length), (11, i64 x.2)] []) (fun x => s.length - x.2) (0, 0) ⟨Nat.zero_le _, by omega, by omega, rfl⟩ (SubS.mk [] rfl ⟨⟨_, rfl, .same⟩, ⟨_, rfl, .same⟩, ⟨_, rfl, .same⟩, ⟨_, rfl, .same⟩, ⟨_, rfl, .same⟩, trivial⟩ trivial) ?_
  rintro ⟨n, i⟩ ⟨hi, hn0, hn1, hv⟩
  dsimp only at hi hn0 hn1 hv ⊢
  conv => whnf
  repeat (first | ((with_reducible first | apply ga | apply gb | apply gc | apply gd | apply ge | apply gf | apply gg | apply gh | apply gi | apply gj); conv => whnf) | (refine ⟨⟨rfl, rfl, nle rfl, nle rfl⟩, ?_⟩; conv => whnf) | fail)
  refine ⟨fun hc => ?_, fun hc => ?_⟩ <;> replace hc := nm hc <;> (try simp only [Int.toNat_zero] at hc) <;> (try simp only [Int.toNat_one] at hc)
  · conv => whnf
    repeat (first | ((with_reducible first | apply ga | apply gb | apply gc | apply gd | apply ge | apply gf | apply gg | apply gh | apply gi | apply gj); conv => whnf) | (refine ⟨⟨rfl, rfl, nle rfl, nle rfl⟩, ?_⟩; conv => whnf) | fail)
    refine ⟨⟨by omega, by omega⟩, ?_⟩
    conv => whnf
    repeat (first | ((with_reducible first | apply ga | apply gb | apply gc | apply gd | apply ge | apply gf | apply gg | apply gh | apply gi | apply gj); conv => whnf) | (refine ⟨⟨rfl, rfl, nle rfl, nle rfl⟩, ?_⟩; conv => whnf) | fail)
    have hi' : i < s.length := by omega
    rw [getD_drop hi', val] at hv
    have h8 := (s.getD i 0).toNat_lt
    have hw : IntKind.i64.wrap ((s.getD (i : Int).toNat 0).toNat : Int) = ((s.getD i 0).toNat : Int) := by rw [Int.toNat_natCast, wi64 (by omega) (by omega)]
    rw [hw]
    refine ⟨⟨by unfold inI64; omega⟩, ?_⟩
    conv => whnf
    repeat (first | ((with_reducible first | apply ga | apply gb | apply gc | apply gd | apply ge | apply gf | apply gg | apply gh | apply gi | apply gj); conv => whnf) | (refine ⟨⟨rfl, rfl, nle rfl, nle rfl⟩, ?_⟩; conv => whnf) | fail)
    refine ⟨fun h1 => ?_, fun h1 => ?_⟩ <;> replace h1 := nm h1 <;> (try simp only [Int.toNat_zero] at h1) <;> (try simp only [Int.toNat_one] at h1)
    · try rw [hw] at h1
      conv => whnf
      repeat (first | ((with_reducible first | apply ga | apply gb | apply gc | apply gd | apply ge | apply gf | apply gg | apply gh | apply gi | apply gj); conv => whnf) | (refine ⟨⟨rfl, rfl, nle rfl, nle rfl⟩, ?_⟩; conv => whnf) | fail)
      refine ⟨fun h2 => ?_, fun h2 => ?_⟩ <;> replace h2 := nm h2 <;> (try simp only [Int.toNat_zero] at h2) <;> (try simp only [Int.toNat_one] at h2)
      · try rw [hw] at h2
        conv => whnf
        repeat (first | ((with_reducible first | apply ga | apply gb | apply gc | apply gd | apply ge | apply gf | apply gg | apply gh | apply gi | apply gj); conv => whnf) | (refine ⟨⟨rfl, rfl, nle rfl, nle rfl⟩, ?_⟩; conv => whnf) | fail)
        rw [hv, if_neg (by omega)]
        exact done_tup [i64 0, bb false] [] rfl ⟨.same, .same, trivial⟩
      · try rw [hw] at h2
        conv => whnf
        repeat (first | ((with_reducible first | apply ga | apply gb | apply gc | apply gd | apply ge | apply gf | apply gg | apply gh | apply gi | apply gj); conv => whnf) | (refine ⟨⟨rfl, rfl, nle rfl, nle rfl⟩, ?_⟩; conv => whnf) | fail)
        try rw [hw]
        refine ⟨⟨by unfold inI64; rcases hb with rfl | rfl <;> omega⟩, ?_⟩
        conv => whnf
        repeat (first | ((with_reducible first | apply ga | apply gb | apply gc | apply gd | apply ge | apply gf | apply gg | apply gh | apply gi | apply gj); conv => whnf) | (refine ⟨⟨rfl, rfl, nle rfl, nle rfl⟩, ?_⟩; conv => whnf) | fail)
        try rw [hw]
        refine ⟨⟨by unfold inI64; rcases hb with rfl | rfl <;> omega⟩, ?_⟩
        conv => whnf
        repeat (first | ((with_reducible first | apply ga | apply gb | apply gc | apply gd | apply ge | apply gf | apply gg | apply gh | apply gi | apply gj); conv => whnf) | (refine ⟨⟨rfl, rfl, nle rfl, nle rfl⟩, ?_⟩; conv => whnf) | fail)
        refine ⟨⟨by unfold inI64; omega⟩, ?_⟩
        conv => whnf
        repeat (first | ((with_reducible first | apply ga | apply gb | apply gc | apply gd | apply ge | apply gf | apply gg | apply gh | apply gi | apply gj); conv => whnf) | (refine ⟨⟨rfl, rfl, nle rfl, nle rfl⟩, ?_⟩; conv => whnf) | fail)
        have hc : 48 ≤ ((s.getD i 0).toNat : Int) ∧ ((s.getD i 0).toNat : Int) - 48 < base := by omega
        rw [if_pos hc] at hv
        have h0 : 0 ≤ n * base := by rcases hb with rfl | rfl <;> omega
        refine ⟨(min (n * base + (((s.getD i 0).toNat : Int) - 48)) 65536, i + 1), ⟨by omega, by simp only; omega, by simp only; omega, hv⟩, SubS.mk [] rfl ⟨⟨_, rfl, .same⟩, ⟨_, rfl, .same⟩, ⟨_, rfl, .int ?_⟩, ⟨_, rfl, .same⟩, ⟨_, rfl, .same⟩, trivial⟩ trivial, by simp only; omega⟩
        try rw [hw]
        simp only; split <;> omega
    · try rw [hw] at h1
      conv => whnf
      repeat (first | ((with_reducible first | apply ga | apply gb | apply gc | apply gd | apply ge | apply gf | apply gg | apply gh | apply gi | apply gj); conv => whnf) | (refine ⟨⟨rfl, rfl, nle rfl, nle rfl⟩, ?_⟩; conv => whnf) | fail)
      rw [hv, if_neg (by omega)]
      exact done_tup [i64 0, bb false] [] rfl ⟨.same, .same, trivial⟩
  · conv => whnf
    repeat (first | ((with_reducible first | apply ga | apply gb | apply gc | apply gd | apply ge | apply gf | apply gg | apply gh | apply gi | apply gj); conv => whnf) | (refine ⟨⟨rfl, rfl, nle rfl, nle rfl⟩, ?_⟩; conv => whnf) | fail)
    have he : i = s.length := by omega
    rw [he, List.drop_length] at hv
    rw [hv]
    exact done_tup [i64 n, bb _] [] rfl ⟨.same, .same, trivial⟩
end Go.Proofs.YtdoeiccibhabcaaDoor

namespace Go.Proofs.YtdoeiccibhabcaaDoor
open Go Go.AM
attribute [local irreducible] AWP CallK PureCall SubS HeapCall
theorem f36 (s : List UInt8) (hs : B62 s) (base : Int) (hb : base = 8 ∨ base = 10) : PureCall Tryd.prog 36 [st s, i64 base] (valT (val base 0 s) (!(s == []))) := by
  unfold B62 at hs
  refine PureCall.run tab_ok mixed (by kernel_rfl) Tryd.func36 rfl rfl rfl ?_
  conv => whnf
  repeat (first | ((with_reducible first | apply ga | apply gb | apply gc | apply gd | apply ge | apply gf | apply gg | apply gh | apply gi | apply gj); conv => whnf) | (refine ⟨⟨rfl, rfl, nle rfl, nle rfl⟩, ?_⟩; conv => whnf) | fail)
  refine ex_loop tab_ok mixed (fun x : Int × Nat => x.2 ≤ s.length ∧ 0 ≤ x.1 ∧ x.1 ≤ 65536 ∧ val base 0 s = val base x.1 (s.drop x.2)) (fun x => mkSt 41 [(0, st s), (1, i64 base), (6, i64 x.1), (7, i64 x.2)] []) (fun x => s.length - x.2) (0, 0) ⟨Nat.zero_le _, by omega, by omega, rfl⟩ (SubS.mk [] rfl ⟨⟨_, rfl, .same⟩, ⟨_, rfl, .same⟩, ⟨_, rfl, .same⟩, ⟨_, rfl, .same⟩, trivial⟩ trivial) ?_
  rintro ⟨n, i⟩ ⟨hi, hn0, hn1, hv⟩
  dsimp only at hi hn0 hn1 hv ⊢
  conv => whnf
  repeat (first | ((with_reducible first | apply ga | apply gb | apply gc | apply gd | apply ge | apply gf | apply gg | apply gh | apply gi | apply gj); conv => whnf) | (refine ⟨⟨rfl, rfl, nle rfl, nle rfl⟩, ?_⟩; conv => whnf) | fail)
  refine ⟨fun hc => ?_, fun hc => ?_⟩ <;> replace hc := nm hc <;> (try simp only [Int.toNat_zero] at hc) <;> (try simp only [Int.toNat_one] at hc)
  · conv => whnf
    repeat (first | ((with_reducible first | apply ga | apply gb | apply gc | apply gd | apply ge | apply gf | apply gg | apply gh | apply gi | apply gj); conv => whnf) | (refine ⟨⟨rfl, rfl, nle rfl, nle rfl⟩, ?_⟩; conv => whnf) | fail)
    refine ⟨⟨by omega, by omega⟩, ?_⟩
    conv => whnf
    repeat (first | ((with_reducible first | apply ga | apply gb | apply gc | apply gd | apply ge | apply gf | apply gg | apply gh | apply gi | apply gj); conv => whnf) | (refine ⟨⟨rfl, rfl, nle rfl, nle rfl⟩, ?_⟩; conv => whnf) | fail)
    have hi' : i < s.length := by omega
    rw [getD_drop hi', val] at hv
    have h8 := (s.getD i 0).toNat_lt
    refine ⟨fun h1 => ?_, fun h1 => ?_⟩ <;> replace h1 := nm h1 <;> (try simp only [Int.toNat_zero] at h1) <;> (try simp only [Int.toNat_one] at h1)
    · rw [Int.toNat_natCast] at h1
      have hw : IntKind.i64.wrap (IntKind.u8.wrap (((s.getD (i : Int).toNat 0).toNat : Int) - 48)) = ((s.getD i 0).toNat : Int) - 48 := by
        rw [Int.toNat_natCast, w8, Int.emod_eq_of_lt (by omega) (by omega), wi64 (by omega) (by omega)]
      conv => whnf
      repeat (first | ((with_reducible first | apply ga | apply gb | apply gc | apply gd | apply ge | apply gf | apply gg | apply gh | apply gi | apply gj); conv => whnf) | (refine ⟨⟨rfl, rfl, nle rfl, nle rfl⟩, ?_⟩; conv => whnf) | fail)
      refine ⟨⟨by omega, by omega⟩, ?_⟩
      conv => whnf
      repeat (first | ((with_reducible first | apply ga | apply gb | apply gc | apply gd | apply ge | apply gf | apply gg | apply gh | apply gi | apply gj); conv => whnf) | (refine ⟨⟨rfl, rfl, nle rfl, nle rfl⟩, ?_⟩; conv => whnf) | fail)
      refine ⟨fun h2 => ?_, fun h2 => ?_⟩ <;> replace h2 := nm h2 <;> (try simp only [Int.toNat_zero] at h2) <;> (try simp only [Int.toNat_one] at h2)
      · try rw [hw] at h2
        conv => whnf
        repeat (first | ((with_reducible first | apply ga | apply gb | apply gc | apply gd | apply ge | apply gf | apply gg | apply gh | apply gi | apply gj); conv => whnf) | (refine ⟨⟨rfl, rfl, nle rfl, nle rfl⟩, ?_⟩; conv => whnf) | fail)
        rw [hv, if_neg (by omega)]
        exact done_tup [i64 0, bb false] [] rfl ⟨.same, .same, trivial⟩
      · try rw [hw] at h2
        conv => whnf
        repeat (first | ((with_reducible first | apply ga | apply gb | apply gc | apply gd | apply ge | apply gf | apply gg | apply gh | apply gi | apply gj); conv => whnf) | (refine ⟨⟨rfl, rfl, nle rfl, nle rfl⟩, ?_⟩; conv => whnf) | fail)
        refine ⟨⟨by unfold inI64; rcases hb with rfl | rfl <;> omega⟩, ?_⟩
        conv => whnf
        repeat (first | ((with_reducible first | apply ga | apply gb | apply gc | apply gd | apply ge | apply gf | apply gg | apply gh | apply gi | apply gj); conv => whnf) | (refine ⟨⟨rfl, rfl, nle rfl, nle rfl⟩, ?_⟩; conv => whnf) | fail)
        refine ⟨⟨by omega, by omega⟩, ?_⟩
        conv => whnf
        repeat (first | ((with_reducible first | apply ga | apply gb | apply gc | apply gd | apply ge | apply gf | apply gg | apply gh | apply gi | apply gj); conv => whnf) | (refine ⟨⟨rfl, rfl, nle rfl, nle rfl⟩, ?_⟩; conv => whnf) | fail)
        try rw [hw]
        refine ⟨⟨by unfold inI64; rcases hb with rfl | rfl <;> omega⟩, ?_⟩
        conv => whnf
        repeat (first | ((with_reducible first | apply ga | apply gb | apply gc | apply gd | apply ge | apply gf | apply gg | apply gh | apply gi | apply gj); conv => whnf) | (refine ⟨⟨rfl, rfl, nle rfl, nle rfl⟩, ?_⟩; conv => whnf) | fail)
        refine ⟨⟨by unfold inI64; omega⟩, ?_⟩
        conv => whnf
        repeat (first | ((with_reducible first | apply ga | apply gb | apply gc | apply gd | apply ge | apply gf | apply gg | apply gh | apply gi | apply gj); conv => whnf) | (refine ⟨⟨rfl, rfl, nle rfl, nle rfl⟩, ?_⟩; conv => whnf) | fail)
        have hc : 48 ≤ ((s.getD i 0).toNat : Int) ∧ ((s.getD i 0).toNat : Int) - 48 < base := by omega
        rw [if_pos hc] at hv
        have h0 : 0 ≤ n * base := by rcases hb with rfl | rfl <;> omega
        refine ⟨(min (n * base + (((s.getD i 0).toNat : Int) - 48)) 65536, i + 1), ⟨by omega, by simp only; omega, by simp only; omega, hv⟩, SubS.mk [] rfl ⟨⟨_, rfl, .same⟩, ⟨_, rfl, .same⟩, ⟨_, rfl, .int ?_⟩, ⟨_, rfl, .same⟩, trivial⟩ trivial, by simp only; omega⟩
        try rw [hw]
        simp only; split <;> omega
    · rw [Int.toNat_natCast] at h1
      conv => whnf
      repeat (first | ((with_reducible first | apply ga | apply gb | apply gc | apply gd | apply ge | apply gf | apply gg | apply gh | apply gi | apply gj); conv => whnf) | (refine ⟨⟨rfl, rfl, nle rfl, nle rfl⟩, ?_⟩; conv => whnf) | fail)
      rw [hv, if_neg (by omega)]
      exact done_tup [i64 0, bb false] [] rfl ⟨.same, .same, trivial⟩
  · conv => whnf
    repeat (first | ((with_reducible first | apply ga | apply gb | apply gc | apply gd | apply ge | apply gf | apply gg | apply gh | apply gi | apply gj); conv => whnf) | (refine ⟨⟨rfl, rfl, nle rfl, nle rfl⟩, ?_⟩; conv => whnf) | fail)
    have he : i = s.length := by omega
    rw [he, List.drop_length] at hv
    rw [hv]
    refine done_tup [i64 n, bb _] [] rfl ⟨.same, .bool ?_, trivial⟩
    cases s with
    | nil => rfl
    | cons _ _ => simp
def valN (base : Int) (s : List UInt8) : Option Int := if s == [] then none else val base 0 s
/-- A number. -/
def numR (neg : Bool) (v : Option Int) : Int × Int :=
  match v with
  | none => (0, 5)
  | some n => if neg && n == 0 then (0, 5) else if 65535 < n then (0, 3) else if neg then (-n, 0) else (n, 0)
def numV (r : List UInt8) : Option Int := if [48, 111].isPrefixOf r then valN 8 (cutP [48, 111] r) else if r == [48] || !([48].isPrefixOf r) then valN 10 r else none
def num (s : List UInt8) : Int × Int := numR ([45].isPrefixOf s) (numV (cutP [45] s))
theorem cutP_le (p s : List UInt8) : (cutP p s).length ≤ s.length := by unfold cutP; split <;> simp
def numT (x : Int × Int) : AV := tupV [i64 x.1, i64 x.2]
theorem valT_eq (base : Int) (s : List UInt8) : valT (val base 0 s) (!(s == [])) = valT (valN base s) true := by
  cases s with
  | nil => rfl
  | cons c s =>
    have : valN base (c :: s) = val base 0 (c :: s) := rfl
    rw [this]
    cases val base 0 (c :: s) <;> rfl
theorem valN_some {base : Int} (hb : base = 8 ∨ base = 10) {s : List UInt8} {n : Int} (h : valN base s = some n) : 0 ≤ n ∧ n ≤ 65536 := by
  unfold valN at h
  split at h
  · cases h
  · exact val_some (by omega) (by omega) h
theorem f34' (s : List UInt8) (hs : B62 s) (base : Int) (hb : base = 8 ∨ base = 10) : PureCall Tryd.prog 34 [st s, i64 base] (valT (valN base s) true) := by
  rw [← valT_eq]; exact f34 s hs base hb
theorem f36' (s : List UInt8) (hs : B62 s) (base : Int) (hb : base = 8 ∨ base = 10) : PureCall Tryd.prog 36 [st s, i64 base] (valT (valN base s) true) := by
  rw [← valT_eq]; exact f36 s hs base hb
theorem f14 (s : List UInt8) (hs : B62 s) : PureCall Tryd.prog 14 [st s] (numT (num s)) := by
  have hr : B62 (cutP [45] s) := Nat.lt_of_le_of_lt (cutP_le _ _) hs
  have ho : B62 (cutP [48, 111] (cutP [45] s)) := Nat.lt_of_le_of_lt (cutP_le _ _) hr
  refine PureCall.run tab_ok mixed (by kernel_rfl) Tryd.func14 rfl rfl rfl ?_
  conv => whnf
  repeat (first | ((with_reducible first | apply ga | apply gb | apply gc | apply gd | apply ge | apply gf | apply gg | apply gh | apply gi | apply gj); conv => whnf) | (refine ⟨⟨rfl, rfl, nle rfl, nle rfl⟩, ?_⟩; conv => whnf) | fail)
  refine CallK.flat [] (f33 s [45]) ⟨.same, .same, trivial⟩ rfl ?_
  conv => whnf
  repeat (first | ((with_reducible first | apply ga | apply gb | apply gc | apply gd | apply ge | apply gf | apply gg | apply gh | apply gi | apply gj); conv => whnf) | (refine ⟨⟨rfl, rfl, nle rfl, nle rfl⟩, ?_⟩; conv => whnf) | fail)
  refine CallK.flat [] (f33 (cutP [45] s) [48, 111]) ⟨.same, .same, trivial⟩ rfl ?_
  conv => whnf
  repeat (first | ((with_reducible first | apply ga | apply gb | apply gc | apply gd | apply ge | apply gf | apply gg | apply gh | apply gi | apply gj); conv => whnf) | (refine ⟨⟨rfl, rfl, nle rfl, nle rfl⟩, ?_⟩; conv => whnf) | fail)
  refine ⟨fun hoct => ?_, fun hoct => ?_⟩ <;> replace hoct := nm hoct <;> (try simp only [Int.toNat_zero] at hoct) <;> (try simp only [Int.toNat_one] at hoct)
  · conv => whnf
    repeat (first | ((with_reducible first | apply ga | apply gb | apply gc | apply gd | apply ge | apply gf | apply gg | apply gh | apply gi | apply gj); conv => whnf) | (refine ⟨⟨rfl, rfl, nle rfl, nle rfl⟩, ?_⟩; conv => whnf) | fail)
    have hV0 : numV (cutP [45] s) = valN 8 (cutP [48, 111] (cutP [45] s)) := by simp only [numV, hoct, if_true]
    have hc := f34' _ ho 8 (.inl rfl)
    cases hv : valN 8 (cutP [48, 111] (cutP [45] s)) with
    | none =>
      have hV := hV0.trans hv
      rw [hv] at hc
      refine CallK.flat [] hc ⟨.same, .same, trivial⟩ rfl ?_
      conv => whnf
      repeat (first | ((with_reducible first | apply ga | apply gb | apply gc | apply gd | apply ge | apply gf | apply gg | apply gh | apply gi | apply gj); conv => whnf) | (refine ⟨⟨rfl, rfl, nle rfl, nle rfl⟩, ?_⟩; conv => whnf) | fail)
      have hN : num s = (0, 5) := by simp only [num, hV, numR]
      rw [hN]
      exact done_tup [i64 0, i64 5] [] rfl ⟨.same, .same, trivial⟩
    | some n =>
      have hV := hV0.trans hv
      have hn := valN_some (.inl rfl) hv
      rw [hv] at hc
      refine CallK.flat [] hc ⟨.same, .same, trivial⟩ rfl ?_
      conv => whnf
      repeat (first | ((with_reducible first | apply ga | apply gb | apply gc | apply gd | apply ge | apply gf | apply gg | apply gh | apply gi | apply gj); conv => whnf) | (refine ⟨⟨rfl, rfl, nle rfl, nle rfl⟩, ?_⟩; conv => whnf) | fail)
      refine ⟨fun hneg => ?_, fun hneg => ?_⟩ <;> replace hneg := nm hneg <;> (try simp only [Int.toNat_zero] at hneg) <;> (try simp only [Int.toNat_one] at hneg)
      · conv => whnf
        repeat (first | ((with_reducible first | apply ga | apply gb | apply gc | apply gd | apply ge | apply gf | apply gg | apply gh | apply gi | apply gj); conv => whnf) | (refine ⟨⟨rfl, rfl, nle rfl, nle rfl⟩, ?_⟩; conv => whnf) | fail)
        refine ⟨fun hz => ?_, fun hz => ?_⟩ <;> replace hz := nm hz <;> (try simp only [Int.toNat_zero] at hz) <;> (try simp only [Int.toNat_one] at hz)
        · conv => whnf
          repeat (first | ((with_reducible first | apply ga | apply gb | apply gc | apply gd | apply ge | apply gf | apply gg | apply gh | apply gi | apply gj); conv => whnf) | (refine ⟨⟨rfl, rfl, nle rfl, nle rfl⟩, ?_⟩; conv => whnf) | fail)
          have hN : num s = (0, 5) := by simp only [num, hV, numR, hneg, hz]; rfl
          rw [hN]
          exact done_tup [i64 0, i64 5] [] rfl ⟨.same, .same, trivial⟩
        · conv => whnf
          repeat (first | ((with_reducible first | apply ga | apply gb | apply gc | apply gd | apply ge | apply gf | apply gg | apply gh | apply gi | apply gj); conv => whnf) | (refine ⟨⟨rfl, rfl, nle rfl, nle rfl⟩, ?_⟩; conv => whnf) | fail)
          refine ⟨fun hbig => ?_, fun hbig => ?_⟩ <;> replace hbig := nm hbig <;> (try simp only [Int.toNat_zero] at hbig) <;> (try simp only [Int.toNat_one] at hbig)
          · conv => whnf
            repeat (first | ((with_reducible first | apply ga | apply gb | apply gc | apply gd | apply ge | apply gf | apply gg | apply gh | apply gi | apply gj); conv => whnf) | (refine ⟨⟨rfl, rfl, nle rfl, nle rfl⟩, ?_⟩; conv => whnf) | fail)
            have hN : num s = (0, 3) := by simp only [num, hV, numR, hneg, Bool.true_and, beq_iff_eq, if_neg hz, if_pos hbig]
            rw [hN]
            exact done_tup [i64 0, i64 3] [] rfl ⟨.same, .same, trivial⟩
          · conv => whnf
            repeat (first | ((with_reducible first | apply ga | apply gb | apply gc | apply gd | apply ge | apply gf | apply gg | apply gh | apply gi | apply gj); conv => whnf) | (refine ⟨⟨rfl, rfl, nle rfl, nle rfl⟩, ?_⟩; conv => whnf) | fail)
            refine ⟨fun _ => ?_, fun e => absurd ((hneg).symm.trans e) (by decide)⟩
            conv => whnf
            repeat (first | ((with_reducible first | apply ga | apply gb | apply gc | apply gd | apply ge | apply gf | apply gg | apply gh | apply gi | apply gj); conv => whnf) | (refine ⟨⟨rfl, rfl, nle rfl, nle rfl⟩, ?_⟩; conv => whnf) | fail)
            refine ⟨⟨by unfold inI64; omega⟩, ?_⟩
            conv => whnf
            repeat (first | ((with_reducible first | apply ga | apply gb | apply gc | apply gd | apply ge | apply gf | apply gg | apply gh | apply gi | apply gj); conv => whnf) | (refine ⟨⟨rfl, rfl, nle rfl, nle rfl⟩, ?_⟩; conv => whnf) | fail)
            have hN : num s = (-n, 0) := by simp only [num, hV, numR, hneg, Bool.true_and, beq_iff_eq, if_neg hz, if_neg (Int.not_lt.mpr hbig), if_true]
            rw [hN]
            exact done_tup [i64 (-n), i64 0] [] rfl ⟨.int (by omega), .same, trivial⟩
      · conv => whnf
        repeat (first | ((with_reducible first | apply ga | apply gb | apply gc | apply gd | apply ge | apply gf | apply gg | apply gh | apply gi | apply gj); conv => whnf) | (refine ⟨⟨rfl, rfl, nle rfl, nle rfl⟩, ?_⟩; conv => whnf) | fail)
        refine ⟨fun hbig => ?_, fun hbig => ?_⟩ <;> replace hbig := nm hbig <;> (try simp only [Int.toNat_zero] at hbig) <;> (try simp only [Int.toNat_one] at hbig)
        · conv => whnf
          repeat (first | ((with_reducible first | apply ga | apply gb | apply gc | apply gd | apply ge | apply gf | apply gg | apply gh | apply gi | apply gj); conv => whnf) | (refine ⟨⟨rfl, rfl, nle rfl, nle rfl⟩, ?_⟩; conv => whnf) | fail)
          have hN : num s = (0, 3) := by simp only [num, hV, numR, hneg, Bool.false_and, if_pos hbig]; rfl
          rw [hN]
          exact done_tup [i64 0, i64 3] [] rfl ⟨.same, .same, trivial⟩
        · conv => whnf
          repeat (first | ((with_reducible first | apply ga | apply gb | apply gc | apply gd | apply ge | apply gf | apply gg | apply gh | apply gi | apply gj); conv => whnf) | (refine ⟨⟨rfl, rfl, nle rfl, nle rfl⟩, ?_⟩; conv => whnf) | fail)
          refine ⟨fun e => absurd ((hneg).symm.trans e) (by decide), fun _ => ?_⟩
          conv => whnf
          repeat (first | ((with_reducible first | apply ga | apply gb | apply gc | apply gd | apply ge | apply gf | apply gg | apply gh | apply gi | apply gj); conv => whnf) | (refine ⟨⟨rfl, rfl, nle rfl, nle rfl⟩, ?_⟩; conv => whnf) | fail)
          have hN : num s = (n, 0) := by simp only [num, hV, numR, hneg, Bool.false_and, if_neg (Int.not_lt.mpr hbig)]; rfl
          rw [hN]
          exact done_tup [i64 n, i64 0] [] rfl ⟨.same, .same, trivial⟩
  · conv => whnf
    repeat (first | ((with_reducible first | apply ga | apply gb | apply gc | apply gd | apply ge | apply gf | apply gg | apply gh | apply gi | apply gj); conv => whnf) | (refine ⟨⟨rfl, rfl, nle rfl, nle rfl⟩, ?_⟩; conv => whnf) | fail)
    have dec : (cutP [45] s == [48] || !([48].isPrefixOf (cutP [45] s))) = true → numV (cutP [45] s) = valN 10 (cutP [45] s) := fun h => by simp only [numV, hoct, h, if_true, Bool.false_eq_true, if_false]
    have hc := f34' _ hr 10 (.inr rfl)
    refine ⟨fun h0 => ?_, fun h0 => ?_⟩ <;> replace h0 := nm h0 <;> (try simp only [Int.toNat_zero] at h0) <;> (try simp only [Int.toNat_one] at h0)
    · conv => whnf
      repeat (first | ((with_reducible first | apply ga | apply gb | apply gc | apply gd | apply ge | apply gf | apply gg | apply gh | apply gi | apply gj); conv => whnf) | (refine ⟨⟨rfl, rfl, nle rfl, nle rfl⟩, ?_⟩; conv => whnf) | fail)
      refine CallK.flat [] (f35 (cutP [45] s) [48]) ⟨.same, .same, trivial⟩ rfl ?_
      conv => whnf
      repeat (first | ((with_reducible first | apply ga | apply gb | apply gc | apply gd | apply ge | apply gf | apply gg | apply gh | apply gi | apply gj); conv => whnf) | (refine ⟨⟨rfl, rfl, nle rfl, nle rfl⟩, ?_⟩; conv => whnf) | fail)
      refine ⟨fun h1 => ?_, fun h1 => ?_⟩ <;> replace h1 := nm h1 <;> (try simp only [Int.toNat_zero] at h1) <;> (try simp only [Int.toNat_one] at h1)
      · conv => whnf
        repeat (first | ((with_reducible first | apply ga | apply gb | apply gc | apply gd | apply ge | apply gf | apply gg | apply gh | apply gi | apply gj); conv => whnf) | (refine ⟨⟨rfl, rfl, nle rfl, nle rfl⟩, ?_⟩; conv => whnf) | fail)
        have hV0 := dec (by rw [h1]; simp)
        cases hv : valN 10 (cutP [45] s) with
        | none =>
          have hV := hV0.trans hv
          rw [hv] at hc
          refine CallK.flat [] hc ⟨.same, .same, trivial⟩ rfl ?_
          conv => whnf
          repeat (first | ((with_reducible first | apply ga | apply gb | apply gc | apply gd | apply ge | apply gf | apply gg | apply gh | apply gi | apply gj); conv => whnf) | (refine ⟨⟨rfl, rfl, nle rfl, nle rfl⟩, ?_⟩; conv => whnf) | fail)
          have hN : num s = (0, 5) := by simp only [num, hV, numR]
          rw [hN]
          exact done_tup [i64 0, i64 5] [] rfl ⟨.same, .same, trivial⟩
        | some n =>
          have hV := hV0.trans hv
          have hn := valN_some (.inr rfl) hv
          rw [hv] at hc
          refine CallK.flat [] hc ⟨.same, .same, trivial⟩ rfl ?_
          conv => whnf
          repeat (first | ((with_reducible first | apply ga | apply gb | apply gc | apply gd | apply ge | apply gf | apply gg | apply gh | apply gi | apply gj); conv => whnf) | (refine ⟨⟨rfl, rfl, nle rfl, nle rfl⟩, ?_⟩; conv => whnf) | fail)
          refine ⟨fun hneg => ?_, fun hneg => ?_⟩ <;> replace hneg := nm hneg <;> (try simp only [Int.toNat_zero] at hneg) <;> (try simp only [Int.toNat_one] at hneg)
          · conv => whnf
            repeat (first | ((with_reducible first | apply ga | apply gb | apply gc | apply gd | apply ge | apply gf | apply gg | apply gh | apply gi | apply gj); conv => whnf) | (refine ⟨⟨rfl, rfl, nle rfl, nle rfl⟩, ?_⟩; conv => whnf) | fail)
            refine ⟨fun hz => ?_, fun hz => ?_⟩ <;> replace hz := nm hz <;> (try simp only [Int.toNat_zero] at hz) <;> (try simp only [Int.toNat_one] at hz)
            · conv => whnf
              repeat (first | ((with_reducible first | apply ga | apply gb | apply gc | apply gd | apply ge | apply gf | apply gg | apply gh | apply gi | apply gj); conv => whnf) | (refine ⟨⟨rfl, rfl, nle rfl, nle rfl⟩, ?_⟩; conv => whnf) | fail)
              have hN : num s = (0, 5) := by simp only [num, hV, numR, hneg, hz]; rfl
              rw [hN]
              exact done_tup [i64 0, i64 5] [] rfl ⟨.same, .same, trivial⟩
            · conv => whnf
              repeat (first | ((with_reducible first | apply ga | apply gb | apply gc | apply gd | apply ge | apply gf | apply gg | apply gh | apply gi | apply gj); conv => whnf) | (refine ⟨⟨rfl, rfl, nle rfl, nle rfl⟩, ?_⟩; conv => whnf) | fail)
              refine ⟨fun hbig => ?_, fun hbig => ?_⟩ <;> replace hbig := nm hbig <;> (try simp only [Int.toNat_zero] at hbig) <;> (try simp only [Int.toNat_one] at hbig)
              · conv => whnf
                repeat (first | ((with_reducible first | apply ga | apply gb | apply gc | apply gd | apply ge | apply gf | apply gg | apply gh | apply gi | apply gj); conv => whnf) | (refine ⟨⟨rfl, rfl, nle rfl, nle rfl⟩, ?_⟩; conv => whnf) | fail)
                have hN : num s = (0, 3) := by simp only [num, hV, numR, hneg, Bool.true_and, beq_iff_eq, if_neg hz, if_pos hbig]
                rw [hN]
                exact done_tup [i64 0, i64 3] [] rfl ⟨.same, .same, trivial⟩
              · conv => whnf
                repeat (first | ((with_reducible first | apply ga | apply gb | apply gc | apply gd | apply ge | apply gf | apply gg | apply gh | apply gi | apply gj); conv => whnf) | (refine ⟨⟨rfl, rfl, nle rfl, nle rfl⟩, ?_⟩; conv => whnf) | fail)
                refine ⟨fun _ => ?_, fun e => absurd ((hneg).symm.trans e) (by decide)⟩
                conv => whnf
                repeat (first | ((with_reducible first | apply ga | apply gb | apply gc | apply gd | apply ge | apply gf | apply gg | apply gh | apply gi | apply gj); conv => whnf) | (refine ⟨⟨rfl, rfl, nle rfl, nle rfl⟩, ?_⟩; conv => whnf) | fail)
                refine ⟨⟨by unfold inI64; omega⟩, ?_⟩
                conv => whnf
                repeat (first | ((with_reducible first | apply ga | apply gb | apply gc | apply gd | apply ge | apply gf | apply gg | apply gh | apply gi | apply gj); conv => whnf) | (refine ⟨⟨rfl, rfl, nle rfl, nle rfl⟩, ?_⟩; conv => whnf) | fail)
                have hN : num s = (-n, 0) := by simp only [num, hV, numR, hneg, Bool.true_and, beq_iff_eq, if_neg hz, if_neg (Int.not_lt.mpr hbig), if_true]
                rw [hN]
                exact done_tup [i64 (-n), i64 0] [] rfl ⟨.int (by omega), .same, trivial⟩
          · conv => whnf
            repeat (first | ((with_reducible first | apply ga | apply gb | apply gc | apply gd | apply ge | apply gf | apply gg | apply gh | apply gi | apply gj); conv => whnf) | (refine ⟨⟨rfl, rfl, nle rfl, nle rfl⟩, ?_⟩; conv => whnf) | fail)
            refine ⟨fun hbig => ?_, fun hbig => ?_⟩ <;> replace hbig := nm hbig <;> (try simp only [Int.toNat_zero] at hbig) <;> (try simp only [Int.toNat_one] at hbig)
            · conv => whnf
              repeat (first | ((with_reducible first | apply ga | apply gb | apply gc | apply gd | apply ge | apply gf | apply gg | apply gh | apply gi | apply gj); conv => whnf) | (refine ⟨⟨rfl, rfl, nle rfl, nle rfl⟩, ?_⟩; conv => whnf) | fail)
              have hN : num s = (0, 3) := by simp only [num, hV, numR, hneg, Bool.false_and, if_pos hbig]; rfl
              rw [hN]
              exact done_tup [i64 0, i64 3] [] rfl ⟨.same, .same, trivial⟩
            · conv => whnf
              repeat (first | ((with_reducible first | apply ga | apply gb | apply gc | apply gd | apply ge | apply gf | apply gg | apply gh | apply gi | apply gj); conv => whnf) | (refine ⟨⟨rfl, rfl, nle rfl, nle rfl⟩, ?_⟩; conv => whnf) | fail)
              refine ⟨fun e => absurd ((hneg).symm.trans e) (by decide), fun _ => ?_⟩
              conv => whnf
              repeat (first | ((with_reducible first | apply ga | apply gb | apply gc | apply gd | apply ge | apply gf | apply gg | apply gh | apply gi | apply gj); conv => whnf) | (refine ⟨⟨rfl, rfl, nle rfl, nle rfl⟩, ?_⟩; conv => whnf) | fail)
              have hN : num s = (n, 0) := by simp only [num, hV, numR, hneg, Bool.false_and, if_neg (Int.not_lt.mpr hbig)]; rfl
              rw [hN]
              exact done_tup [i64 n, i64 0] [] rfl ⟨.same, .same, trivial⟩
      · conv => whnf
        repeat (first | ((with_reducible first | apply ga | apply gb | apply gc | apply gd | apply ge | apply gf | apply gg | apply gh | apply gi | apply gj); conv => whnf) | (refine ⟨⟨rfl, rfl, nle rfl, nle rfl⟩, ?_⟩; conv => whnf) | fail)
        have hV : numV (cutP [45] s) = none := by
          have : (cutP [45] s == [48]) = false := by simpa using h0
          simp only [numV, hoct, this, h1]; rfl
        have hN : num s = (0, 5) := by simp only [num, hV, numR]
        rw [hN]
        exact done_tup [i64 0, i64 5] [] rfl ⟨.same, .same, trivial⟩
    · conv => whnf
      repeat (first | ((with_reducible first | apply ga | apply gb | apply gc | apply gd | apply ge | apply gf | apply gg | apply gh | apply gi | apply gj); conv => whnf) | (refine ⟨⟨rfl, rfl, nle rfl, nle rfl⟩, ?_⟩; conv => whnf) | fail)
      have hV0 := dec (by simp [h0])
      cases hv : valN 10 (cutP [45] s) with
      | none =>
        have hV := hV0.trans hv
        rw [hv] at hc
        refine CallK.flat [] hc ⟨.same, .same, trivial⟩ rfl ?_
        conv => whnf
        repeat (first | ((with_reducible first | apply ga | apply gb | apply gc | apply gd | apply ge | apply gf | apply gg | apply gh | apply gi | apply gj); conv => whnf) | (refine ⟨⟨rfl, rfl, nle rfl, nle rfl⟩, ?_⟩; conv => whnf) | fail)
        have hN : num s = (0, 5) := by simp only [num, hV, numR]
        rw [hN]
        exact done_tup [i64 0, i64 5] [] rfl ⟨.same, .same, trivial⟩
      | some n =>
        have hV := hV0.trans hv
        have hn := valN_some (.inr rfl) hv
        rw [hv] at hc
        refine CallK.flat [] hc ⟨.same, .same, trivial⟩ rfl ?_
        conv => whnf
        repeat (first | ((with_reducible first | apply ga | apply gb | apply gc | apply gd | apply ge | apply gf | apply gg | apply gh | apply gi | apply gj); conv => whnf) | (refine ⟨⟨rfl, rfl, nle rfl, nle rfl⟩, ?_⟩; conv => whnf) | fail)
        refine ⟨fun hneg => ?_, fun hneg => ?_⟩ <;> replace hneg := nm hneg <;> (try simp only [Int.toNat_zero] at hneg) <;> (try simp only [Int.toNat_one] at hneg)
        · conv => whnf
          repeat (first | ((with_reducible first | apply ga | apply gb | apply gc | apply gd | apply ge | apply gf | apply gg | apply gh | apply gi | apply gj); conv => whnf) | (refine ⟨⟨rfl, rfl, nle rfl, nle rfl⟩, ?_⟩; conv => whnf) | fail)
          refine ⟨fun hz => ?_, fun hz => ?_⟩ <;> replace hz := nm hz <;> (try simp only [Int.toNat_zero] at hz) <;> (try simp only [Int.toNat_one] at hz)
          · conv => whnf
            repeat (first | ((with_reducible first | apply ga | apply gb | apply gc | apply gd | apply ge | apply gf | apply gg | apply gh | apply gi | apply gj); conv => whnf) | (refine ⟨⟨rfl, rfl, nle rfl, nle rfl⟩, ?_⟩; conv => whnf) | fail)
            have hN : num s = (0, 5) := by simp only [num, hV, numR, hneg, hz]; rfl
            rw [hN]
            exact done_tup [i64 0, i64 5] [] rfl ⟨.same, .same, trivial⟩
          · conv => whnf
            repeat (first | ((with_reducible first | apply ga | apply gb | apply gc | apply gd | apply ge | apply gf | apply gg | apply gh | apply gi | apply gj); conv => whnf) | (refine ⟨⟨rfl, rfl, nle rfl, nle rfl⟩, ?_⟩; conv => whnf) | fail)
            refine ⟨fun hbig => ?_, fun hbig => ?_⟩ <;> replace hbig := nm hbig <;> (try simp only [Int.toNat_zero] at hbig) <;> (try simp only [Int.toNat_one] at hbig)
            · conv => whnf
              repeat (first | ((with_reducible first | apply ga | apply gb | apply gc | apply gd | apply ge | apply gf | apply gg | apply gh | apply gi | apply gj); conv => whnf) | (refine ⟨⟨rfl, rfl, nle rfl, nle rfl⟩, ?_⟩; conv => whnf) | fail)
              have hN : num s = (0, 3) := by simp only [num, hV, numR, hneg, Bool.true_and, beq_iff_eq, if_neg hz, if_pos hbig]
              rw [hN]
              exact done_tup [i64 0, i64 3] [] rfl ⟨.same, .same, trivial⟩
            · conv => whnf
              repeat (first | ((with_reducible first | apply ga | apply gb | apply gc | apply gd | apply ge | apply gf | apply gg | apply gh | apply gi | apply gj); conv => whnf) | (refine ⟨⟨rfl, rfl, nle rfl, nle rfl⟩, ?_⟩; conv => whnf) | fail)
              refine ⟨fun _ => ?_, fun e => absurd ((hneg).symm.trans e) (by decide)⟩
              conv => whnf
              repeat (first | ((with_reducible first | apply ga | apply gb | apply gc | apply gd | apply ge | apply gf | apply gg | apply gh | apply gi | apply gj); conv => whnf) | (refine ⟨⟨rfl, rfl, nle rfl, nle rfl⟩, ?_⟩; conv => whnf) | fail)
              refine ⟨⟨by unfold inI64; omega⟩, ?_⟩
              conv => whnf
              repeat (first | ((with_reducible first | apply ga | apply gb | apply gc | apply gd | apply ge | apply gf | apply gg | apply gh | apply gi | apply gj); conv => whnf) | (refine ⟨⟨rfl, rfl, nle rfl, nle rfl⟩, ?_⟩; conv => whnf) | fail)
              have hN : num s = (-n, 0) := by simp only [num, hV, numR, hneg, Bool.true_and, beq_iff_eq, if_neg hz, if_neg (Int.not_lt.mpr hbig), if_true]
              rw [hN]
              exact done_tup [i64 (-n), i64 0] [] rfl ⟨.int (by omega), .same, trivial⟩
        · conv => whnf
          repeat (first | ((with_reducible first | apply ga | apply gb | apply gc | apply gd | apply ge | apply gf | apply gg | apply gh | apply gi | apply gj); conv => whnf) | (refine ⟨⟨rfl, rfl, nle rfl, nle rfl⟩, ?_⟩; conv => whnf) | fail)
          refine ⟨fun hbig => ?_, fun hbig => ?_⟩ <;> replace hbig := nm hbig <;> (try simp only [Int.toNat_zero] at hbig) <;> (try simp only [Int.toNat_one] at hbig)
          · conv => whnf
            repeat (first | ((with_reducible first | apply ga | apply gb | apply gc | apply gd | apply ge | apply gf | apply gg | apply gh | apply gi | apply gj); conv => whnf) | (refine ⟨⟨rfl, rfl, nle rfl, nle rfl⟩, ?_⟩; conv => whnf) | fail)
            have hN : num s = (0, 3) := by simp only [num, hV, numR, hneg, Bool.false_and, if_pos hbig]; rfl
            rw [hN]
            exact done_tup [i64 0, i64 3] [] rfl ⟨.same, .same, trivial⟩
          · conv => whnf
            repeat (first | ((with_reducible first | apply ga | apply gb | apply gc | apply gd | apply ge | apply gf | apply gg | apply gh | apply gi | apply gj); conv => whnf) | (refine ⟨⟨rfl, rfl, nle rfl, nle rfl⟩, ?_⟩; conv => whnf) | fail)
            refine ⟨fun e => absurd ((hneg).symm.trans e) (by decide), fun _ => ?_⟩
            conv => whnf
            repeat (first | ((with_reducible first | apply ga | apply gb | apply gc | apply gd | apply ge | apply gf | apply gg | apply gh | apply gi | apply gj); conv => whnf) | (refine ⟨⟨rfl, rfl, nle rfl, nle rfl⟩, ?_⟩; conv => whnf) | fail)
            have hN : num s = (n, 0) := by simp only [num, hV, numR, hneg, Bool.false_and, if_neg (Int.not_lt.mpr hbig)]; rfl
            rw [hN]
            exact done_tup [i64 n, i64 0] [] rfl ⟨.same, .same, trivial⟩
end Go.Proofs.YtdoeiccibhabcaaDoor

namespace Go.Proofs.YtdoeiccibhabcaaDoor
open Go Go.AM
attribute [local irreducible] AWP CallK PureCall SubS HeapCall
theorem nat_beq (c : UInt8) (k : UInt8) : (((c.toNat : Int) == (k.toNat : Int)) : Bool) = (c == k) := by
  rw [Bool.eq_iff_iff, beq_iff_eq, beq_iff_eq]
  constructor
  · intro h; exact UInt8.toNat_inj.mp (by omega)
  · rintro rfl; rfl
theorem pre1 (k : UInt8) (s : List UInt8) : [k].isPrefixOf s = (decide ((0 : Int) < s.length) && ((s.getD 0 0).toNat : Int) == k.toNat) := by
  cases s with
  | nil => rfl
  | cons c s =>
    rw [nat_beq]
    have : decide ((0 : Int) < ((c :: s).length : Nat)) = true := by simp
    rw [this]
    simp only [List.isPrefixOf, Bool.and_true, Bool.true_and, List.getD_cons_zero]
    exact Bool.beq_comm
theorem numV_eq (r : List UInt8) : numV r = if decide ((1 : Int) < r.length) && ((r.getD 0 0).toNat : Int) == 48 then (if ((r.getD 1 0).toNat : Int) == 111 then valN 8 (r.drop 2) else none) else valN 10 r := by
  have e48 : ∀ c : UInt8, (((c.toNat : Int) == 48) : Bool) = (c == 48) := fun c => nat_beq c 48
  have e111 : ∀ c : UInt8, (((c.toNat : Int) == 111) : Bool) = (c == 111) := fun c => nat_beq c 111
  simp only [e48, e111]
  match r with
  | [] => rfl
  | [a] =>
    have h1 : decide ((1 : Int) < ([a] : List UInt8).length) = false := by simp
    rw [h1]
    simp only [Bool.false_and, Bool.false_eq_true, if_false]
    by_cases ha : a = 48
    · subst ha; rfl
    · have : (([a] : List UInt8) == [48] || !([48].isPrefixOf [a])) = true := by simp [List.isPrefixOf, Ne.symm ha]
      have h2 : ([48, 111] : List UInt8).isPrefixOf [a] = false := by simp [List.isPrefixOf]
      simp only [numV, h2, this, if_true, Bool.false_eq_true, if_false]
  | a :: b :: r =>
    have h1 : decide ((1 : Int) < ((a :: b :: r : List UInt8).length : Nat)) = true := by simp; omega
    rw [h1]
    by_cases ha : a = 48
    · subst ha
      by_cases hb : b = 111
      · subst hb; simp [numV, cutP]
      · have h2 : ([48, 111] : List UInt8).isPrefixOf (48 :: b :: r) = false := by simp [List.isPrefixOf, Ne.symm hb]
        have h3 : (((48 : UInt8) :: b :: r) == [48] || !([48].isPrefixOf ((48 : UInt8) :: b :: r))) = false := by simp [List.isPrefixOf]
        simp only [numV, h2, h3]
        simp [hb]
    · have h2 : ([48, 111] : List UInt8).isPrefixOf (a :: b :: r) = false := by simp [List.isPrefixOf, Ne.symm ha]
      have h3 : ((a :: b :: r) == [48] || !([48].isPrefixOf (a :: b :: r))) = true := by simp [List.isPrefixOf, Ne.symm ha]
      simp only [numV, h2, h3]
      simp [ha]
set_option maxHeartbeats 2000000 in
theorem f15 (s : List UInt8) (hs : B62 s) : PureCall Tryd.prog 15 [st s] (numT (num s)) := by
  refine PureCall.run tab_ok mixed (by kernel_rfl) Tryd.func15 rfl rfl rfl ?_
  conv => whnf
  repeat (first | ((with_reducible first | apply ga | apply gb | apply gc | apply gd | apply ge | apply gf | apply gg | apply gh | apply gi | apply gj); conv => whnf) | (refine ⟨⟨rfl, rfl, nle rfl, nle rfl⟩, ?_⟩; conv => whnf) | fail)
  refine ⟨fun h0 => ?_, fun h0 => ?_⟩ <;> replace h0 := nm h0 <;> (try simp only [Int.toNat_zero] at h0) <;> (try simp only [Int.toNat_one] at h0)
  · conv => whnf
    repeat (first | ((with_reducible first | apply ga | apply gb | apply gc | apply gd | apply ge | apply gf | apply gg | apply gh | apply gi | apply gj); conv => whnf) | (refine ⟨⟨rfl, rfl, nle rfl, nle rfl⟩, ?_⟩; conv => whnf) | fail)
    refine ⟨⟨by omega, by omega⟩, ?_⟩
    conv => whnf
    repeat (first | ((with_reducible first | apply ga | apply gb | apply gc | apply gd | apply ge | apply gf | apply gg | apply gh | apply gi | apply gj); conv => whnf) | (refine ⟨⟨rfl, rfl, nle rfl, nle rfl⟩, ?_⟩; conv => whnf) | fail)
    refine ⟨fun h45 => ?_, fun h45 => ?_⟩ <;> replace h45 := nm h45 <;> (try simp only [Int.toNat_zero] at h45) <;> (try simp only [Int.toNat_one] at h45)
    · conv => whnf
      repeat (first | ((with_reducible first | apply ga | apply gb | apply gc | apply gd | apply ge | apply gf | apply gg | apply gh | apply gi | apply gj); conv => whnf) | (refine ⟨⟨rfl, rfl, nle rfl, nle rfl⟩, ?_⟩; conv => whnf) | fail)
      refine ⟨⟨by omega, by omega⟩, ?_⟩
      conv => whnf
      repeat (first | ((with_reducible first | apply ga | apply gb | apply gc | apply gd | apply ge | apply gf | apply gg | apply gh | apply gi | apply gj); conv => whnf) | (refine ⟨⟨rfl, rfl, nle rfl, nle rfl⟩, ?_⟩; conv => whnf) | fail)
      obtain ⟨r, hrd⟩ : ∃ r, s.drop 1 = r := ⟨_, rfl⟩
      have hneg : [45].isPrefixOf s = true := by rw [pre1, decide_eq_true h0, Bool.true_and]; exact beq_iff_eq.mpr h45
      have hcut : cutP [45] s = r := by rw [cutP, hneg, ← hrd]; rfl
      have hlen : (r.length : Int) < s.length := by rw [← hrd]; simp; omega
      have hr : B62 r := by have := hs; unfold B62 at this ⊢; omega
      rw [show s.drop (Int.toNat 1) = r from hrd]
      have hc := f36' r hr 10 (.inr rfl)
      cases hv : valN 10 r with
      | none =>
        rw [hv] at hc
        refine CallK.flat [] hc ⟨.same, .same, trivial⟩ rfl ?_
        conv => whnf
        repeat (first | ((with_reducible first | apply ga | apply gb | apply gc | apply gd | apply ge | apply gf | apply gg | apply gh | apply gi | apply gj); conv => whnf) | (refine ⟨⟨rfl, rfl, nle rfl, nle rfl⟩, ?_⟩; conv => whnf) | fail)
        refine ⟨fun h1l => ?_, fun h1l => ?_⟩ <;> replace h1l := nm h1l <;> (try simp only [Int.toNat_zero] at h1l) <;> (try simp only [Int.toNat_one] at h1l)
        · conv => whnf
          repeat (first | ((with_reducible first | apply ga | apply gb | apply gc | apply gd | apply ge | apply gf | apply gg | apply gh | apply gi | apply gj); conv => whnf) | (refine ⟨⟨rfl, rfl, nle rfl, nle rfl⟩, ?_⟩; conv => whnf) | fail)
          refine ⟨⟨by omega, by omega⟩, ?_⟩
          conv => whnf
          repeat (first | ((with_reducible first | apply ga | apply gb | apply gc | apply gd | apply ge | apply gf | apply gg | apply gh | apply gi | apply gj); conv => whnf) | (refine ⟨⟨rfl, rfl, nle rfl, nle rfl⟩, ?_⟩; conv => whnf) | fail)
          refine ⟨fun h48 => ?_, fun h48 => ?_⟩ <;> replace h48 := nm h48 <;> (try simp only [Int.toNat_zero] at h48) <;> (try simp only [Int.toNat_one] at h48)
          · conv => whnf
            repeat (first | ((with_reducible first | apply ga | apply gb | apply gc | apply gd | apply ge | apply gf | apply gg | apply gh | apply gi | apply gj); conv => whnf) | (refine ⟨⟨rfl, rfl, nle rfl, nle rfl⟩, ?_⟩; conv => whnf) | fail)
            refine ⟨⟨by omega, by omega⟩, ?_⟩
            conv => whnf
            repeat (first | ((with_reducible first | apply ga | apply gb | apply gc | apply gd | apply ge | apply gf | apply gg | apply gh | apply gi | apply gj); conv => whnf) | (refine ⟨⟨rfl, rfl, nle rfl, nle rfl⟩, ?_⟩; conv => whnf) | fail)
            refine ⟨fun h111 => ?_, fun h111 => ?_⟩ <;> replace h111 := nm h111 <;> (try simp only [Int.toNat_zero] at h111) <;> (try simp only [Int.toNat_one] at h111)
            · conv => whnf
              repeat (first | ((with_reducible first | apply ga | apply gb | apply gc | apply gd | apply ge | apply gf | apply gg | apply gh | apply gi | apply gj); conv => whnf) | (refine ⟨⟨rfl, rfl, nle rfl, nle rfl⟩, ?_⟩; conv => whnf) | fail)
              refine ⟨⟨by omega, by omega⟩, ?_⟩
              conv => whnf
              repeat (first | ((with_reducible first | apply ga | apply gb | apply gc | apply gd | apply ge | apply gf | apply gg | apply gh | apply gi | apply gj); conv => whnf) | (refine ⟨⟨rfl, rfl, nle rfl, nle rfl⟩, ?_⟩; conv => whnf) | fail)
              have hV0 : numV r = valN 8 (r.drop 2) := by rw [numV_eq]; simp only [decide_eq_true h1l, h48, h111, beq_self_eq_true, Bool.and_true, if_true]
              have hc8 := f36' (r.drop 2) (by have := hr; unfold B62 at this ⊢; simp; omega) 8 (.inl rfl)
              cases hv8 : valN 8 (r.drop 2) with
              | none =>
                have hV := hV0.trans hv8
                rw [hv8] at hc8
                refine CallK.flat [] hc8 ⟨.same, .same, trivial⟩ rfl ?_
                conv => whnf
                repeat (first | ((with_reducible first | apply ga | apply gb | apply gc | apply gd | apply ge | apply gf | apply gg | apply gh | apply gi | apply gj); conv => whnf) | (refine ⟨⟨rfl, rfl, nle rfl, nle rfl⟩, ?_⟩; conv => whnf) | fail)
                have hN : num s = (0, 5) := by simp only [num, hcut, hV, numR]
                rw [hN]
                exact done_tup [i64 0, i64 5] [] rfl ⟨.same, .same, trivial⟩
              | some n =>
                have hV := hV0.trans hv8
                have hn := valN_some (.inl rfl) hv8
                rw [hv8] at hc8
                refine CallK.flat [] hc8 ⟨.same, .same, trivial⟩ rfl ?_
                conv => whnf
                repeat (first | ((with_reducible first | apply ga | apply gb | apply gc | apply gd | apply ge | apply gf | apply gg | apply gh | apply gi | apply gj); conv => whnf) | (refine ⟨⟨rfl, rfl, nle rfl, nle rfl⟩, ?_⟩; conv => whnf) | fail)
                refine ⟨fun hz => ?_, fun hz => ?_⟩ <;> replace hz := nm hz <;> (try simp only [Int.toNat_zero] at hz) <;> (try simp only [Int.toNat_one] at hz)
                · conv => whnf
                  repeat (first | ((with_reducible first | apply ga | apply gb | apply gc | apply gd | apply ge | apply gf | apply gg | apply gh | apply gi | apply gj); conv => whnf) | (refine ⟨⟨rfl, rfl, nle rfl, nle rfl⟩, ?_⟩; conv => whnf) | fail)
                  refine ⟨fun _ => ?_, fun e => absurd (((decide_eq_true hlen)).symm.trans e) (by decide)⟩
                  conv => whnf
                  repeat (first | ((with_reducible first | apply ga | apply gb | apply gc | apply gd | apply ge | apply gf | apply gg | apply gh | apply gi | apply gj); conv => whnf) | (refine ⟨⟨rfl, rfl, nle rfl, nle rfl⟩, ?_⟩; conv => whnf) | fail)
                  have hN : num s = (0, 5) := by simp only [num, hcut, hV, numR, hneg, hz]; rfl
                  rw [hN]
                  exact done_tup [i64 0, i64 5] [] rfl ⟨.same, .same, trivial⟩
                · conv => whnf
                  repeat (first | ((with_reducible first | apply ga | apply gb | apply gc | apply gd | apply ge | apply gf | apply gg | apply gh | apply gi | apply gj); conv => whnf) | (refine ⟨⟨rfl, rfl, nle rfl, nle rfl⟩, ?_⟩; conv => whnf) | fail)
                  refine ⟨fun hbig => ?_, fun hbig => ?_⟩ <;> replace hbig := nm hbig <;> (try simp only [Int.toNat_zero] at hbig) <;> (try simp only [Int.toNat_one] at hbig)
                  · conv => whnf
                    repeat (first | ((with_reducible first | apply ga | apply gb | apply gc | apply gd | apply ge | apply gf | apply gg | apply gh | apply gi | apply gj); conv => whnf) | (refine ⟨⟨rfl, rfl, nle rfl, nle rfl⟩, ?_⟩; conv => whnf) | fail)
                    have hN : num s = (0, 3) := by simp only [num, hcut, hV, numR, hneg, Bool.true_and, beq_iff_eq, if_neg hz, if_pos hbig]
                    rw [hN]
                    exact done_tup [i64 0, i64 3] [] rfl ⟨.same, .same, trivial⟩
                  · conv => whnf
                    repeat (first | ((with_reducible first | apply ga | apply gb | apply gc | apply gd | apply ge | apply gf | apply gg | apply gh | apply gi | apply gj); conv => whnf) | (refine ⟨⟨rfl, rfl, nle rfl, nle rfl⟩, ?_⟩; conv => whnf) | fail)
                    refine ⟨fun _ => ?_, fun e => absurd (((decide_eq_true hlen)).symm.trans e) (by decide)⟩
                    conv => whnf
                    repeat (first | ((with_reducible first | apply ga | apply gb | apply gc | apply gd | apply ge | apply gf | apply gg | apply gh | apply gi | apply gj); conv => whnf) | (refine ⟨⟨rfl, rfl, nle rfl, nle rfl⟩, ?_⟩; conv => whnf) | fail)
                    refine ⟨⟨by unfold inI64; omega⟩, ?_⟩
                    conv => whnf
                    repeat (first | ((with_reducible first | apply ga | apply gb | apply gc | apply gd | apply ge | apply gf | apply gg | apply gh | apply gi | apply gj); conv => whnf) | (refine ⟨⟨rfl, rfl, nle rfl, nle rfl⟩, ?_⟩; conv => whnf) | fail)
                    have hN : num s = (-n, 0) := by simp only [num, hcut, hV, numR, hneg, Bool.true_and, beq_iff_eq, if_neg hz, if_neg (Int.not_lt.mpr hbig), if_true]
                    rw [hN]
                    exact done_tup [i64 (-n), i64 0] [] rfl ⟨.int (by omega), .same, trivial⟩
            · conv => whnf
              repeat (first | ((with_reducible first | apply ga | apply gb | apply gc | apply gd | apply ge | apply gf | apply gg | apply gh | apply gi | apply gj); conv => whnf) | (refine ⟨⟨rfl, rfl, nle rfl, nle rfl⟩, ?_⟩; conv => whnf) | fail)
              have hV : numV r = none := by rw [numV_eq]; simp only [decide_eq_true h1l, h48, beq_self_eq_true, Bool.and_true, if_true, beq_eq_false_iff_ne.mpr h111, Bool.false_eq_true, if_false]
              have hN : num s = (0, 5) := by simp only [num, hcut, hV, numR]
              rw [hN]
              exact done_tup [i64 0, i64 5] [] rfl ⟨.same, .same, trivial⟩
          · conv => whnf
            repeat (first | ((with_reducible first | apply ga | apply gb | apply gc | apply gd | apply ge | apply gf | apply gg | apply gh | apply gi | apply gj); conv => whnf) | (refine ⟨⟨rfl, rfl, nle rfl, nle rfl⟩, ?_⟩; conv => whnf) | fail)
            have hV0 : numV r = valN 10 r := by rw [numV_eq]; simp only [beq_eq_false_iff_ne.mpr h48, Bool.and_false, Bool.false_eq_true, if_false]
            have hV := hV0.trans hv
            have hN : num s = (0, 5) := by simp only [num, hcut, hV, numR]
            rw [hN]
            exact done_tup [i64 0, i64 5] [] rfl ⟨.same, .same, trivial⟩
        · conv => whnf
          repeat (first | ((with_reducible first | apply ga | apply gb | apply gc | apply gd | apply ge | apply gf | apply gg | apply gh | apply gi | apply gj); conv => whnf) | (refine ⟨⟨rfl, rfl, nle rfl, nle rfl⟩, ?_⟩; conv => whnf) | fail)
          have hV0 : numV r = valN 10 r := by rw [numV_eq]; simp only [decide_eq_false (Int.not_lt.mpr h1l), Bool.false_and, Bool.false_eq_true, if_false]
          have hV := hV0.trans hv
          have hN : num s = (0, 5) := by simp only [num, hcut, hV, numR]
          rw [hN]
          exact done_tup [i64 0, i64 5] [] rfl ⟨.same, .same, trivial⟩
      | some n =>
        have hn := valN_some (.inr rfl) hv
        rw [hv] at hc
        refine CallK.flat [] hc ⟨.same, .same, trivial⟩ rfl ?_
        conv => whnf
        repeat (first | ((with_reducible first | apply ga | apply gb | apply gc | apply gd | apply ge | apply gf | apply gg | apply gh | apply gi | apply gj); conv => whnf) | (refine ⟨⟨rfl, rfl, nle rfl, nle rfl⟩, ?_⟩; conv => whnf) | fail)
        refine ⟨fun h1l => ?_, fun h1l => ?_⟩ <;> replace h1l := nm h1l <;> (try simp only [Int.toNat_zero] at h1l) <;> (try simp only [Int.toNat_one] at h1l)
        · conv => whnf
          repeat (first | ((with_reducible first | apply ga | apply gb | apply gc | apply gd | apply ge | apply gf | apply gg | apply gh | apply gi | apply gj); conv => whnf) | (refine ⟨⟨rfl, rfl, nle rfl, nle rfl⟩, ?_⟩; conv => whnf) | fail)
          refine ⟨⟨by omega, by omega⟩, ?_⟩
          conv => whnf
          repeat (first | ((with_reducible first | apply ga | apply gb | apply gc | apply gd | apply ge | apply gf | apply gg | apply gh | apply gi | apply gj); conv => whnf) | (refine ⟨⟨rfl, rfl, nle rfl, nle rfl⟩, ?_⟩; conv => whnf) | fail)
          refine ⟨fun h48 => ?_, fun h48 => ?_⟩ <;> replace h48 := nm h48 <;> (try simp only [Int.toNat_zero] at h48) <;> (try simp only [Int.toNat_one] at h48)
          · conv => whnf
            repeat (first | ((with_reducible first | apply ga | apply gb | apply gc | apply gd | apply ge | apply gf | apply gg | apply gh | apply gi | apply gj); conv => whnf) | (refine ⟨⟨rfl, rfl, nle rfl, nle rfl⟩, ?_⟩; conv => whnf) | fail)
            refine ⟨⟨by omega, by omega⟩, ?_⟩
            conv => whnf
            repeat (first | ((with_reducible first | apply ga | apply gb | apply gc | apply gd | apply ge | apply gf | apply gg | apply gh | apply gi | apply gj); conv => whnf) | (refine ⟨⟨rfl, rfl, nle rfl, nle rfl⟩, ?_⟩; conv => whnf) | fail)
            refine ⟨fun h111 => ?_, fun h111 => ?_⟩ <;> replace h111 := nm h111 <;> (try simp only [Int.toNat_zero] at h111) <;> (try simp only [Int.toNat_one] at h111)
            · conv => whnf
              repeat (first | ((with_reducible first | apply ga | apply gb | apply gc | apply gd | apply ge | apply gf | apply gg | apply gh | apply gi | apply gj); conv => whnf) | (refine ⟨⟨rfl, rfl, nle rfl, nle rfl⟩, ?_⟩; conv => whnf) | fail)
              refine ⟨⟨by omega, by omega⟩, ?_⟩
              conv => whnf
              repeat (first | ((with_reducible first | apply ga | apply gb | apply gc | apply gd | apply ge | apply gf | apply gg | apply gh | apply gi | apply gj); conv => whnf) | (refine ⟨⟨rfl, rfl, nle rfl, nle rfl⟩, ?_⟩; conv => whnf) | fail)
              have hV0 : numV r = valN 8 (r.drop 2) := by rw [numV_eq]; simp only [decide_eq_true h1l, h48, h111, beq_self_eq_true, Bool.and_true, if_true]
              have hc8 := f36' (r.drop 2) (by have := hr; unfold B62 at this ⊢; simp; omega) 8 (.inl rfl)
              cases hv8 : valN 8 (r.drop 2) with
              | none =>
                have hV := hV0.trans hv8
                rw [hv8] at hc8
                refine CallK.flat [] hc8 ⟨.same, .same, trivial⟩ rfl ?_
                conv => whnf
                repeat (first | ((with_reducible first | apply ga | apply gb | apply gc | apply gd | apply ge | apply gf | apply gg | apply gh | apply gi | apply gj); conv => whnf) | (refine ⟨⟨rfl, rfl, nle rfl, nle rfl⟩, ?_⟩; conv => whnf) | fail)
                have hN : num s = (0, 5) := by simp only [num, hcut, hV, numR]
                rw [hN]
                exact done_tup [i64 0, i64 5] [] rfl ⟨.same, .same, trivial⟩
              | some n =>
                have hV := hV0.trans hv8
                have hn := valN_some (.inl rfl) hv8
                rw [hv8] at hc8
                refine CallK.flat [] hc8 ⟨.same, .same, trivial⟩ rfl ?_
                conv => whnf
                repeat (first | ((with_reducible first | apply ga | apply gb | apply gc | apply gd | apply ge | apply gf | apply gg | apply gh | apply gi | apply gj); conv => whnf) | (refine ⟨⟨rfl, rfl, nle rfl, nle rfl⟩, ?_⟩; conv => whnf) | fail)
                refine ⟨fun hz => ?_, fun hz => ?_⟩ <;> replace hz := nm hz <;> (try simp only [Int.toNat_zero] at hz) <;> (try simp only [Int.toNat_one] at hz)
                · conv => whnf
                  repeat (first | ((with_reducible first | apply ga | apply gb | apply gc | apply gd | apply ge | apply gf | apply gg | apply gh | apply gi | apply gj); conv => whnf) | (refine ⟨⟨rfl, rfl, nle rfl, nle rfl⟩, ?_⟩; conv => whnf) | fail)
                  refine ⟨fun _ => ?_, fun e => absurd (((decide_eq_true hlen)).symm.trans e) (by decide)⟩
                  conv => whnf
                  repeat (first | ((with_reducible first | apply ga | apply gb | apply gc | apply gd | apply ge | apply gf | apply gg | apply gh | apply gi | apply gj); conv => whnf) | (refine ⟨⟨rfl, rfl, nle rfl, nle rfl⟩, ?_⟩; conv => whnf) | fail)
                  have hN : num s = (0, 5) := by simp only [num, hcut, hV, numR, hneg, hz]; rfl
                  rw [hN]
                  exact done_tup [i64 0, i64 5] [] rfl ⟨.same, .same, trivial⟩
                · conv => whnf
                  repeat (first | ((with_reducible first | apply ga | apply gb | apply gc | apply gd | apply ge | apply gf | apply gg | apply gh | apply gi | apply gj); conv => whnf) | (refine ⟨⟨rfl, rfl, nle rfl, nle rfl⟩, ?_⟩; conv => whnf) | fail)
                  refine ⟨fun hbig => ?_, fun hbig => ?_⟩ <;> replace hbig := nm hbig <;> (try simp only [Int.toNat_zero] at hbig) <;> (try simp only [Int.toNat_one] at hbig)
                  · conv => whnf
                    repeat (first | ((with_reducible first | apply ga | apply gb | apply gc | apply gd | apply ge | apply gf | apply gg | apply gh | apply gi | apply gj); conv => whnf) | (refine ⟨⟨rfl, rfl, nle rfl, nle rfl⟩, ?_⟩; conv => whnf) | fail)
                    have hN : num s = (0, 3) := by simp only [num, hcut, hV, numR, hneg, Bool.true_and, beq_iff_eq, if_neg hz, if_pos hbig]
                    rw [hN]
                    exact done_tup [i64 0, i64 3] [] rfl ⟨.same, .same, trivial⟩
                  · conv => whnf
                    repeat (first | ((with_reducible first | apply ga | apply gb | apply gc | apply gd | apply ge | apply gf | apply gg | apply gh | apply gi | apply gj); conv => whnf) | (refine ⟨⟨rfl, rfl, nle rfl, nle rfl⟩, ?_⟩; conv => whnf) | fail)
                    refine ⟨fun _ => ?_, fun e => absurd (((decide_eq_true hlen)).symm.trans e) (by decide)⟩
                    conv => whnf
                    repeat (first | ((with_reducible first | apply ga | apply gb | apply gc | apply gd | apply ge | apply gf | apply gg | apply gh | apply gi | apply gj); conv => whnf) | (refine ⟨⟨rfl, rfl, nle rfl, nle rfl⟩, ?_⟩; conv => whnf) | fail)
                    refine ⟨⟨by unfold inI64; omega⟩, ?_⟩
                    conv => whnf
                    repeat (first | ((with_reducible first | apply ga | apply gb | apply gc | apply gd | apply ge | apply gf | apply gg | apply gh | apply gi | apply gj); conv => whnf) | (refine ⟨⟨rfl, rfl, nle rfl, nle rfl⟩, ?_⟩; conv => whnf) | fail)
                    have hN : num s = (-n, 0) := by simp only [num, hcut, hV, numR, hneg, Bool.true_and, beq_iff_eq, if_neg hz, if_neg (Int.not_lt.mpr hbig), if_true]
                    rw [hN]
                    exact done_tup [i64 (-n), i64 0] [] rfl ⟨.int (by omega), .same, trivial⟩
            · conv => whnf
              repeat (first | ((with_reducible first | apply ga | apply gb | apply gc | apply gd | apply ge | apply gf | apply gg | apply gh | apply gi | apply gj); conv => whnf) | (refine ⟨⟨rfl, rfl, nle rfl, nle rfl⟩, ?_⟩; conv => whnf) | fail)
              have hV : numV r = none := by rw [numV_eq]; simp only [decide_eq_true h1l, h48, beq_self_eq_true, Bool.and_true, if_true, beq_eq_false_iff_ne.mpr h111, Bool.false_eq_true, if_false]
              have hN : num s = (0, 5) := by simp only [num, hcut, hV, numR]
              rw [hN]
              exact done_tup [i64 0, i64 5] [] rfl ⟨.same, .same, trivial⟩
          · conv => whnf
            repeat (first | ((with_reducible first | apply ga | apply gb | apply gc | apply gd | apply ge | apply gf | apply gg | apply gh | apply gi | apply gj); conv => whnf) | (refine ⟨⟨rfl, rfl, nle rfl, nle rfl⟩, ?_⟩; conv => whnf) | fail)
            have hV0 : numV r = valN 10 r := by rw [numV_eq]; simp only [beq_eq_false_iff_ne.mpr h48, Bool.and_false, Bool.false_eq_true, if_false]
            have hV := hV0.trans hv
            refine ⟨fun hz => ?_, fun hz => ?_⟩ <;> replace hz := nm hz <;> (try simp only [Int.toNat_zero] at hz) <;> (try simp only [Int.toNat_one] at hz)
            · conv => whnf
              repeat (first | ((with_reducible first | apply ga | apply gb | apply gc | apply gd | apply ge | apply gf | apply gg | apply gh | apply gi | apply gj); conv => whnf) | (refine ⟨⟨rfl, rfl, nle rfl, nle rfl⟩, ?_⟩; conv => whnf) | fail)
              refine ⟨fun _ => ?_, fun e => absurd (((decide_eq_true hlen)).symm.trans e) (by decide)⟩
              conv => whnf
              repeat (first | ((with_reducible first | apply ga | apply gb | apply gc | apply gd | apply ge | apply gf | apply gg | apply gh | apply gi | apply gj); conv => whnf) | (refine ⟨⟨rfl, rfl, nle rfl, nle rfl⟩, ?_⟩; conv => whnf) | fail)
              have hN : num s = (0, 5) := by simp only [num, hcut, hV, numR, hneg, hz]; rfl
              rw [hN]
              exact done_tup [i64 0, i64 5] [] rfl ⟨.same, .same, trivial⟩
            · conv => whnf
              repeat (first | ((with_reducible first | apply ga | apply gb | apply gc | apply gd | apply ge | apply gf | apply gg | apply gh | apply gi | apply gj); conv => whnf) | (refine ⟨⟨rfl, rfl, nle rfl, nle rfl⟩, ?_⟩; conv => whnf) | fail)
              refine ⟨fun hbig => ?_, fun hbig => ?_⟩ <;> replace hbig := nm hbig <;> (try simp only [Int.toNat_zero] at hbig) <;> (try simp only [Int.toNat_one] at hbig)
              · conv => whnf
                repeat (first | ((with_reducible first | apply ga | apply gb | apply gc | apply gd | apply ge | apply gf | apply gg | apply gh | apply gi | apply gj); conv => whnf) | (refine ⟨⟨rfl, rfl, nle rfl, nle rfl⟩, ?_⟩; conv => whnf) | fail)
                have hN : num s = (0, 3) := by simp only [num, hcut, hV, numR, hneg, Bool.true_and, beq_iff_eq, if_neg hz, if_pos hbig]
                rw [hN]
                exact done_tup [i64 0, i64 3] [] rfl ⟨.same, .same, trivial⟩
              · conv => whnf
                repeat (first | ((with_reducible first | apply ga | apply gb | apply gc | apply gd | apply ge | apply gf | apply gg | apply gh | apply gi | apply gj); conv => whnf) | (refine ⟨⟨rfl, rfl, nle rfl, nle rfl⟩, ?_⟩; conv => whnf) | fail)
                refine ⟨fun _ => ?_, fun e => absurd (((decide_eq_true hlen)).symm.trans e) (by decide)⟩
                conv => whnf
                repeat (first | ((with_reducible first | apply ga | apply gb | apply gc | apply gd | apply ge | apply gf | apply gg | apply gh | apply gi | apply gj); conv => whnf) | (refine ⟨⟨rfl, rfl, nle rfl, nle rfl⟩, ?_⟩; conv => whnf) | fail)
                refine ⟨⟨by unfold inI64; omega⟩, ?_⟩
                conv => whnf
                repeat (first | ((with_reducible first | apply ga | apply gb | apply gc | apply gd | apply ge | apply gf | apply gg | apply gh | apply gi | apply gj); conv => whnf) | (refine ⟨⟨rfl, rfl, nle rfl, nle rfl⟩, ?_⟩; conv => whnf) | fail)
                have hN : num s = (-n, 0) := by simp only [num, hcut, hV, numR, hneg, Bool.true_and, beq_iff_eq, if_neg hz, if_neg (Int.not_lt.mpr hbig), if_true]
                rw [hN]
                exact done_tup [i64 (-n), i64 0] [] rfl ⟨.int (by omega), .same, trivial⟩
        · conv => whnf
          repeat (first | ((with_reducible first | apply ga | apply gb | apply gc | apply gd | apply ge | apply gf | apply gg | apply gh | apply gi | apply gj); conv => whnf) | (refine ⟨⟨rfl, rfl, nle rfl, nle rfl⟩, ?_⟩; conv => whnf) | fail)
          have hV0 : numV r = valN 10 r := by rw [numV_eq]; simp only [decide_eq_false (Int.not_lt.mpr h1l), Bool.false_and, Bool.false_eq_true, if_false]
          have hV := hV0.trans hv
          refine ⟨fun hz => ?_, fun hz => ?_⟩ <;> replace hz := nm hz <;> (try simp only [Int.toNat_zero] at hz) <;> (try simp only [Int.toNat_one] at hz)
          · conv => whnf
            repeat (first | ((with_reducible first | apply ga | apply gb | apply gc | apply gd | apply ge | apply gf | apply gg | apply gh | apply gi | apply gj); conv => whnf) | (refine ⟨⟨rfl, rfl, nle rfl, nle rfl⟩, ?_⟩; conv => whnf) | fail)
            refine ⟨fun _ => ?_, fun e => absurd (((decide_eq_true hlen)).symm.trans e) (by decide)⟩
            conv => whnf
            repeat (first | ((with_reducible first | apply ga | apply gb | apply gc | apply gd | apply ge | apply gf | apply gg | apply gh | apply gi | apply gj); conv => whnf) | (refine ⟨⟨rfl, rfl, nle rfl, nle rfl⟩, ?_⟩; conv => whnf) | fail)
            have hN : num s = (0, 5) := by simp only [num, hcut, hV, numR, hneg, hz]; rfl
            rw [hN]
            exact done_tup [i64 0, i64 5] [] rfl ⟨.same, .same, trivial⟩
          · conv => whnf
            repeat (first | ((with_reducible first | apply ga | apply gb | apply gc | apply gd | apply ge | apply gf | apply gg | apply gh | apply gi | apply gj); conv => whnf) | (refine ⟨⟨rfl, rfl, nle rfl, nle rfl⟩, ?_⟩; conv => whnf) | fail)
            refine ⟨fun hbig => ?_, fun hbig => ?_⟩ <;> replace hbig := nm hbig <;> (try simp only [Int.toNat_zero] at hbig) <;> (try simp only [Int.toNat_one] at hbig)
            · conv => whnf
              repeat (first | ((with_reducible first | apply ga | apply gb | apply gc | apply gd | apply ge | apply gf | apply gg | apply gh | apply gi | apply gj); conv => whnf) | (refine ⟨⟨rfl, rfl, nle rfl, nle rfl⟩, ?_⟩; conv => whnf) | fail)
              have hN : num s = (0, 3) := by simp only [num, hcut, hV, numR, hneg, Bool.true_and, beq_iff_eq, if_neg hz, if_pos hbig]
              rw [hN]
              exact done_tup [i64 0, i64 3] [] rfl ⟨.same, .same, trivial⟩
            · conv => whnf
              repeat (first | ((with_reducible first | apply ga | apply gb | apply gc | apply gd | apply ge | apply gf | apply gg | apply gh | apply gi | apply gj); conv => whnf) | (refine ⟨⟨rfl, rfl, nle rfl, nle rfl⟩, ?_⟩; conv => whnf) | fail)
              refine ⟨fun _ => ?_, fun e => absurd (((decide_eq_true hlen)).symm.trans e) (by decide)⟩
              conv => whnf
              repeat (first | ((with_reducible first | apply ga | apply gb | apply gc | apply gd | apply ge | apply gf | apply gg | apply gh | apply gi | apply gj); conv => whnf) | (refine ⟨⟨rfl, rfl, nle rfl, nle rfl⟩, ?_⟩; conv => whnf) | fail)
              refine ⟨⟨by unfold inI64; omega⟩, ?_⟩
              conv => whnf
              repeat (first | ((with_reducible first | apply ga | apply gb | apply gc | apply gd | apply ge | apply gf | apply gg | apply gh | apply gi | apply gj); conv => whnf) | (refine ⟨⟨rfl, rfl, nle rfl, nle rfl⟩, ?_⟩; conv => whnf) | fail)
              have hN : num s = (-n, 0) := by simp only [num, hcut, hV, numR, hneg, Bool.true_and, beq_iff_eq, if_neg hz, if_neg (Int.not_lt.mpr hbig), if_true]
              rw [hN]
              exact done_tup [i64 (-n), i64 0] [] rfl ⟨.int (by omega), .same, trivial⟩
    · conv => whnf
      repeat (first | ((with_reducible first | apply ga | apply gb | apply gc | apply gd | apply ge | apply gf | apply gg | apply gh | apply gi | apply gj); conv => whnf) | (refine ⟨⟨rfl, rfl, nle rfl, nle rfl⟩, ?_⟩; conv => whnf) | fail)
      have hneg : [45].isPrefixOf s = false := by rw [pre1, show (((s.getD 0 0).toNat : Int) == ((45 : UInt8).toNat : Int)) = false from beq_eq_false_iff_ne.mpr h45, Bool.and_false]
      obtain ⟨r, hrd⟩ : ∃ r, s = r := ⟨_, rfl⟩
      have hcut : cutP [45] s = r := by rw [cutP, hneg, ← hrd]; rfl
      have hlen : ¬ ((s.length : Int) < s.length) := by omega
      have hr : B62 r := by rw [← hrd]; exact hs
      subst hrd
      have hc := f36' s hr 10 (.inr rfl)
      cases hv : valN 10 s with
      | none =>
        rw [hv] at hc
        refine CallK.flat [] hc ⟨.same, .same, trivial⟩ rfl ?_
        conv => whnf
        repeat (first | ((with_reducible first | apply ga | apply gb | apply gc | apply gd | apply ge | apply gf | apply gg | apply gh | apply gi | apply gj); conv => whnf) | (refine ⟨⟨rfl, rfl, nle rfl, nle rfl⟩, ?_⟩; conv => whnf) | fail)
        refine ⟨fun h1l => ?_, fun h1l => ?_⟩ <;> replace h1l := nm h1l <;> (try simp only [Int.toNat_zero] at h1l) <;> (try simp only [Int.toNat_one] at h1l)
        · conv => whnf
          repeat (first | ((with_reducible first | apply ga | apply gb | apply gc | apply gd | apply ge | apply gf | apply gg | apply gh | apply gi | apply gj); conv => whnf) | (refine ⟨⟨rfl, rfl, nle rfl, nle rfl⟩, ?_⟩; conv => whnf) | fail)
          refine ⟨⟨by omega, by omega⟩, ?_⟩
          conv => whnf
          repeat (first | ((with_reducible first | apply ga | apply gb | apply gc | apply gd | apply ge | apply gf | apply gg | apply gh | apply gi | apply gj); conv => whnf) | (refine ⟨⟨rfl, rfl, nle rfl, nle rfl⟩, ?_⟩; conv => whnf) | fail)
          refine ⟨fun h48 => ?_, fun h48 => ?_⟩ <;> replace h48 := nm h48 <;> (try simp only [Int.toNat_zero] at h48) <;> (try simp only [Int.toNat_one] at h48)
          · conv => whnf
            repeat (first | ((with_reducible first | apply ga | apply gb | apply gc | apply gd | apply ge | apply gf | apply gg | apply gh | apply gi | apply gj); conv => whnf) | (refine ⟨⟨rfl, rfl, nle rfl, nle rfl⟩, ?_⟩; conv => whnf) | fail)
            refine ⟨⟨by omega, by omega⟩, ?_⟩
            conv => whnf
            repeat (first | ((with_reducible first | apply ga | apply gb | apply gc | apply gd | apply ge | apply gf | apply gg | apply gh | apply gi | apply gj); conv => whnf) | (refine ⟨⟨rfl, rfl, nle rfl, nle rfl⟩, ?_⟩; conv => whnf) | fail)
            refine ⟨fun h111 => ?_, fun h111 => ?_⟩ <;> replace h111 := nm h111 <;> (try simp only [Int.toNat_zero] at h111) <;> (try simp only [Int.toNat_one] at h111)
            · conv => whnf
              repeat (first | ((with_reducible first | apply ga | apply gb | apply gc | apply gd | apply ge | apply gf | apply gg | apply gh | apply gi | apply gj); conv => whnf) | (refine ⟨⟨rfl, rfl, nle rfl, nle rfl⟩, ?_⟩; conv => whnf) | fail)
              refine ⟨⟨by omega, by omega⟩, ?_⟩
              conv => whnf
              repeat (first | ((with_reducible first | apply ga | apply gb | apply gc | apply gd | apply ge | apply gf | apply gg | apply gh | apply gi | apply gj); conv => whnf) | (refine ⟨⟨rfl, rfl, nle rfl, nle rfl⟩, ?_⟩; conv => whnf) | fail)
              have hV0 : numV s = valN 8 (s.drop 2) := by rw [numV_eq]; simp only [decide_eq_true h1l, h48, h111, beq_self_eq_true, Bool.and_true, if_true]
              have hc8 := f36' (s.drop 2) (by have := hr; unfold B62 at this ⊢; simp; omega) 8 (.inl rfl)
              cases hv8 : valN 8 (s.drop 2) with
              | none =>
                have hV := hV0.trans hv8
                rw [hv8] at hc8
                refine CallK.flat [] hc8 ⟨.same, .same, trivial⟩ rfl ?_
                conv => whnf
                repeat (first | ((with_reducible first | apply ga | apply gb | apply gc | apply gd | apply ge | apply gf | apply gg | apply gh | apply gi | apply gj); conv => whnf) | (refine ⟨⟨rfl, rfl, nle rfl, nle rfl⟩, ?_⟩; conv => whnf) | fail)
                have hN : num s = (0, 5) := by simp only [num, hcut, hV, numR]
                rw [hN]
                exact done_tup [i64 0, i64 5] [] rfl ⟨.same, .same, trivial⟩
              | some n =>
                have hV := hV0.trans hv8
                have hn := valN_some (.inl rfl) hv8
                rw [hv8] at hc8
                refine CallK.flat [] hc8 ⟨.same, .same, trivial⟩ rfl ?_
                conv => whnf
                repeat (first | ((with_reducible first | apply ga | apply gb | apply gc | apply gd | apply ge | apply gf | apply gg | apply gh | apply gi | apply gj); conv => whnf) | (refine ⟨⟨rfl, rfl, nle rfl, nle rfl⟩, ?_⟩; conv => whnf) | fail)
                refine ⟨fun hz => ?_, fun hz => ?_⟩ <;> replace hz := nm hz <;> (try simp only [Int.toNat_zero] at hz) <;> (try simp only [Int.toNat_one] at hz)
                · conv => whnf
                  repeat (first | ((with_reducible first | apply ga | apply gb | apply gc | apply gd | apply ge | apply gf | apply gg | apply gh | apply gi | apply gj); conv => whnf) | (refine ⟨⟨rfl, rfl, nle rfl, nle rfl⟩, ?_⟩; conv => whnf) | fail)
                  refine ⟨fun e => absurd (((decide_eq_false hlen)).symm.trans e) (by decide), fun _ => ?_⟩
                  conv => whnf
                  repeat (first | ((with_reducible first | apply ga | apply gb | apply gc | apply gd | apply ge | apply gf | apply gg | apply gh | apply gi | apply gj); conv => whnf) | (refine ⟨⟨rfl, rfl, nle rfl, nle rfl⟩, ?_⟩; conv => whnf) | fail)
                  refine ⟨fun hbig => ?_, fun hbig => ?_⟩ <;> replace hbig := nm hbig <;> (try simp only [Int.toNat_zero] at hbig) <;> (try simp only [Int.toNat_one] at hbig)
                  · conv => whnf
                    repeat (first | ((with_reducible first | apply ga | apply gb | apply gc | apply gd | apply ge | apply gf | apply gg | apply gh | apply gi | apply gj); conv => whnf) | (refine ⟨⟨rfl, rfl, nle rfl, nle rfl⟩, ?_⟩; conv => whnf) | fail)
                    have hN : num s = (0, 3) := by simp only [num, hcut, hV, numR, hneg, Bool.false_and, if_pos hbig]; rfl
                    rw [hN]
                    exact done_tup [i64 0, i64 3] [] rfl ⟨.same, .same, trivial⟩
                  · conv => whnf
                    repeat (first | ((with_reducible first | apply ga | apply gb | apply gc | apply gd | apply ge | apply gf | apply gg | apply gh | apply gi | apply gj); conv => whnf) | (refine ⟨⟨rfl, rfl, nle rfl, nle rfl⟩, ?_⟩; conv => whnf) | fail)
                    refine ⟨fun e => absurd (((decide_eq_false hlen)).symm.trans e) (by decide), fun _ => ?_⟩
                    conv => whnf
                    repeat (first | ((with_reducible first | apply ga | apply gb | apply gc | apply gd | apply ge | apply gf | apply gg | apply gh | apply gi | apply gj); conv => whnf) | (refine ⟨⟨rfl, rfl, nle rfl, nle rfl⟩, ?_⟩; conv => whnf) | fail)
                    have hN : num s = (n, 0) := by simp only [num, hcut, hV, numR, hneg, Bool.false_and, if_neg (Int.not_lt.mpr hbig)]; rfl
                    rw [hN]
                    exact done_tup [i64 n, i64 0] [] rfl ⟨.same, .same, trivial⟩
                · conv => whnf
                  repeat (first | ((with_reducible first | apply ga | apply gb | apply gc | apply gd | apply ge | apply gf | apply gg | apply gh | apply gi | apply gj); conv => whnf) | (refine ⟨⟨rfl, rfl, nle rfl, nle rfl⟩, ?_⟩; conv => whnf) | fail)
                  refine ⟨fun hbig => ?_, fun hbig => ?_⟩ <;> replace hbig := nm hbig <;> (try simp only [Int.toNat_zero] at hbig) <;> (try simp only [Int.toNat_one] at hbig)
                  · conv => whnf
                    repeat (first | ((with_reducible first | apply ga | apply gb | apply gc | apply gd | apply ge | apply gf | apply gg | apply gh | apply gi | apply gj); conv => whnf) | (refine ⟨⟨rfl, rfl, nle rfl, nle rfl⟩, ?_⟩; conv => whnf) | fail)
                    have hN : num s = (0, 3) := by simp only [num, hcut, hV, numR, hneg, Bool.false_and, if_pos hbig]; rfl
                    rw [hN]
                    exact done_tup [i64 0, i64 3] [] rfl ⟨.same, .same, trivial⟩
                  · conv => whnf
                    repeat (first | ((with_reducible first | apply ga | apply gb | apply gc | apply gd | apply ge | apply gf | apply gg | apply gh | apply gi | apply gj); conv => whnf) | (refine ⟨⟨rfl, rfl, nle rfl, nle rfl⟩, ?_⟩; conv => whnf) | fail)
                    refine ⟨fun e => absurd (((decide_eq_false hlen)).symm.trans e) (by decide), fun _ => ?_⟩
                    conv => whnf
                    repeat (first | ((with_reducible first | apply ga | apply gb | apply gc | apply gd | apply ge | apply gf | apply gg | apply gh | apply gi | apply gj); conv => whnf) | (refine ⟨⟨rfl, rfl, nle rfl, nle rfl⟩, ?_⟩; conv => whnf) | fail)
                    have hN : num s = (n, 0) := by simp only [num, hcut, hV, numR, hneg, Bool.false_and, if_neg (Int.not_lt.mpr hbig)]; rfl
                    rw [hN]
                    exact done_tup [i64 n, i64 0] [] rfl ⟨.same, .same, trivial⟩
            · conv => whnf
              repeat (first | ((with_reducible first | apply ga | apply gb | apply gc | apply gd | apply ge | apply gf | apply gg | apply gh | apply gi | apply gj); conv => whnf) | (refine ⟨⟨rfl, rfl, nle rfl, nle rfl⟩, ?_⟩; conv => whnf) | fail)
              have hV : numV s = none := by rw [numV_eq]; simp only [decide_eq_true h1l, h48, beq_self_eq_true, Bool.and_true, if_true, beq_eq_false_iff_ne.mpr h111, Bool.false_eq_true, if_false]
              have hN : num s = (0, 5) := by simp only [num, hcut, hV, numR]
              rw [hN]
              exact done_tup [i64 0, i64 5] [] rfl ⟨.same, .same, trivial⟩
          · conv => whnf
            repeat (first | ((with_reducible first | apply ga | apply gb | apply gc | apply gd | apply ge | apply gf | apply gg | apply gh | apply gi | apply gj); conv => whnf) | (refine ⟨⟨rfl, rfl, nle rfl, nle rfl⟩, ?_⟩; conv => whnf) | fail)
            have hV0 : numV s = valN 10 s := by rw [numV_eq]; simp only [beq_eq_false_iff_ne.mpr h48, Bool.and_false, Bool.false_eq_true, if_false]
            have hV := hV0.trans hv
            have hN : num s = (0, 5) := by simp only [num, hcut, hV, numR]
            rw [hN]
            exact done_tup [i64 0, i64 5] [] rfl ⟨.same, .same, trivial⟩
        · conv => whnf
          repeat (first | ((with_reducible first | apply ga | apply gb | apply gc | apply gd | apply ge | apply gf | apply gg | apply gh | apply gi | apply gj); conv => whnf) | (refine ⟨⟨rfl, rfl, nle rfl, nle rfl⟩, ?_⟩; conv => whnf) | fail)
          have hV0 : numV s = valN 10 s := by rw [numV_eq]; simp only [decide_eq_false (Int.not_lt.mpr h1l), Bool.false_and, Bool.false_eq_true, if_false]
          have hV := hV0.trans hv
          have hN : num s = (0, 5) := by simp only [num, hcut, hV, numR]
          rw [hN]
          exact done_tup [i64 0, i64 5] [] rfl ⟨.same, .same, trivial⟩
      | some n =>
        have hn := valN_some (.inr rfl) hv
        rw [hv] at hc
        refine CallK.flat [] hc ⟨.same, .same, trivial⟩ rfl ?_
        conv => whnf
        repeat (first | ((with_reducible first | apply ga | apply gb | apply gc | apply gd | apply ge | apply gf | apply gg | apply gh | apply gi | apply gj); conv => whnf) | (refine ⟨⟨rfl, rfl, nle rfl, nle rfl⟩, ?_⟩; conv => whnf) | fail)
        refine ⟨fun h1l => ?_, fun h1l => ?_⟩ <;> replace h1l := nm h1l <;> (try simp only [Int.toNat_zero] at h1l) <;> (try simp only [Int.toNat_one] at h1l)
        · conv => whnf
          repeat (first | ((with_reducible first | apply ga | apply gb | apply gc | apply gd | apply ge | apply gf | apply gg | apply gh | apply gi | apply gj); conv => whnf) | (refine ⟨⟨rfl, rfl, nle rfl, nle rfl⟩, ?_⟩; conv => whnf) | fail)
          refine ⟨⟨by omega, by omega⟩, ?_⟩
          conv => whnf
          repeat (first | ((with_reducible first | apply ga | apply gb | apply gc | apply gd | apply ge | apply gf | apply gg | apply gh | apply gi | apply gj); conv => whnf) | (refine ⟨⟨rfl, rfl, nle rfl, nle rfl⟩, ?_⟩; conv => whnf) | fail)
          refine ⟨fun h48 => ?_, fun h48 => ?_⟩ <;> replace h48 := nm h48 <;> (try simp only [Int.toNat_zero] at h48) <;> (try simp only [Int.toNat_one] at h48)
          · conv => whnf
            repeat (first | ((with_reducible first | apply ga | apply gb | apply gc | apply gd | apply ge | apply gf | apply gg | apply gh | apply gi | apply gj); conv => whnf) | (refine ⟨⟨rfl, rfl, nle rfl, nle rfl⟩, ?_⟩; conv => whnf) | fail)
            refine ⟨⟨by omega, by omega⟩, ?_⟩
            conv => whnf
            repeat (first | ((with_reducible first | apply ga | apply gb | apply gc | apply gd | apply ge | apply gf | apply gg | apply gh | apply gi | apply gj); conv => whnf) | (refine ⟨⟨rfl, rfl, nle rfl, nle rfl⟩, ?_⟩; conv => whnf) | fail)
            refine ⟨fun h111 => ?_, fun h111 => ?_⟩ <;> replace h111 := nm h111 <;> (try simp only [Int.toNat_zero] at h111) <;> (try simp only [Int.toNat_one] at h111)
            · conv => whnf
              repeat (first | ((with_reducible first | apply ga | apply gb | apply gc | apply gd | apply ge | apply gf | apply gg | apply gh | apply gi | apply gj); conv => whnf) | (refine ⟨⟨rfl, rfl, nle rfl, nle rfl⟩, ?_⟩; conv => whnf) | fail)
              refine ⟨⟨by omega, by omega⟩, ?_⟩
              conv => whnf
              repeat (first | ((with_reducible first | apply ga | apply gb | apply gc | apply gd | apply ge | apply gf | apply gg | apply gh | apply gi | apply gj); conv => whnf) | (refine ⟨⟨rfl, rfl, nle rfl, nle rfl⟩, ?_⟩; conv => whnf) | fail)
              have hV0 : numV s = valN 8 (s.drop 2) := by rw [numV_eq]; simp only [decide_eq_true h1l, h48, h111, beq_self_eq_true, Bool.and_true, if_true]
              have hc8 := f36' (s.drop 2) (by have := hr; unfold B62 at this ⊢; simp; omega) 8 (.inl rfl)
              cases hv8 : valN 8 (s.drop 2) with
              | none =>
                have hV := hV0.trans hv8
                rw [hv8] at hc8
                refine CallK.flat [] hc8 ⟨.same, .same, trivial⟩ rfl ?_
                conv => whnf
                repeat (first | ((with_reducible first | apply ga | apply gb | apply gc | apply gd | apply ge | apply gf | apply gg | apply gh | apply gi | apply gj); conv => whnf) | (refine ⟨⟨rfl, rfl, nle rfl, nle rfl⟩, ?_⟩; conv => whnf) | fail)
                have hN : num s = (0, 5) := by simp only [num, hcut, hV, numR]
                rw [hN]
                exact done_tup [i64 0, i64 5] [] rfl ⟨.same, .same, trivial⟩
              | some n =>
                have hV := hV0.trans hv8
                have hn := valN_some (.inl rfl) hv8
                rw [hv8] at hc8
                refine CallK.flat [] hc8 ⟨.same, .same, trivial⟩ rfl ?_
                conv => whnf
                repeat (first | ((with_reducible first | apply ga | apply gb | apply gc | apply gd | apply ge | apply gf | apply gg | apply gh | apply gi | apply gj); conv => whnf) | (refine ⟨⟨rfl, rfl, nle rfl, nle rfl⟩, ?_⟩; conv => whnf) | fail)
                refine ⟨fun hz => ?_, fun hz => ?_⟩ <;> replace hz := nm hz <;> (try simp only [Int.toNat_zero] at hz) <;> (try simp only [Int.toNat_one] at hz)
                · conv => whnf
                  repeat (first | ((with_reducible first | apply ga | apply gb | apply gc | apply gd | apply ge | apply gf | apply gg | apply gh | apply gi | apply gj); conv => whnf) | (refine ⟨⟨rfl, rfl, nle rfl, nle rfl⟩, ?_⟩; conv => whnf) | fail)
                  refine ⟨fun e => absurd (((decide_eq_false hlen)).symm.trans e) (by decide), fun _ => ?_⟩
                  conv => whnf
                  repeat (first | ((with_reducible first | apply ga | apply gb | apply gc | apply gd | apply ge | apply gf | apply gg | apply gh | apply gi | apply gj); conv => whnf) | (refine ⟨⟨rfl, rfl, nle rfl, nle rfl⟩, ?_⟩; conv => whnf) | fail)
                  refine ⟨fun hbig => ?_, fun hbig => ?_⟩ <;> replace hbig := nm hbig <;> (try simp only [Int.toNat_zero] at hbig) <;> (try simp only [Int.toNat_one] at hbig)
                  · conv => whnf
                    repeat (first | ((with_reducible first | apply ga | apply gb | apply gc | apply gd | apply ge | apply gf | apply gg | apply gh | apply gi | apply gj); conv => whnf) | (refine ⟨⟨rfl, rfl, nle rfl, nle rfl⟩, ?_⟩; conv => whnf) | fail)
                    have hN : num s = (0, 3) := by simp only [num, hcut, hV, numR, hneg, Bool.false_and, if_pos hbig]; rfl
                    rw [hN]
                    exact done_tup [i64 0, i64 3] [] rfl ⟨.same, .same, trivial⟩
                  · conv => whnf
                    repeat (first | ((with_reducible first | apply ga | apply gb | apply gc | apply gd | apply ge | apply gf | apply gg | apply gh | apply gi | apply gj); conv => whnf) | (refine ⟨⟨rfl, rfl, nle rfl, nle rfl⟩, ?_⟩; conv => whnf) | fail)
                    refine ⟨fun e => absurd (((decide_eq_false hlen)).symm.trans e) (by decide), fun _ => ?_⟩
                    conv => whnf
                    repeat (first | ((with_reducible first | apply ga | apply gb | apply gc | apply gd | apply ge | apply gf | apply gg | apply gh | apply gi | apply gj); conv => whnf) | (refine ⟨⟨rfl, rfl, nle rfl, nle rfl⟩, ?_⟩; conv => whnf) | fail)
                    have hN : num s = (n, 0) := by simp only [num, hcut, hV, numR, hneg, Bool.false_and, if_neg (Int.not_lt.mpr hbig)]; rfl
                    rw [hN]
                    exact done_tup [i64 n, i64 0] [] rfl ⟨.same, .same, trivial⟩
                · conv => whnf
                  repeat (first | ((with_reducible first | apply ga | apply gb | apply gc | apply gd | apply ge | apply gf | apply gg | apply gh | apply gi | apply gj); conv => whnf) | (refine ⟨⟨rfl, rfl, nle rfl, nle rfl⟩, ?_⟩; conv => whnf) | fail)
                  refine ⟨fun hbig => ?_, fun hbig => ?_⟩ <;> replace hbig := nm hbig <;> (try simp only [Int.toNat_zero] at hbig) <;> (try simp only [Int.toNat_one] at hbig)
                  · conv => whnf
                    repeat (first | ((with_reducible first | apply ga | apply gb | apply gc | apply gd | apply ge | apply gf | apply gg | apply gh | apply gi | apply gj); conv => whnf) | (refine ⟨⟨rfl, rfl, nle rfl, nle rfl⟩, ?_⟩; conv => whnf) | fail)
                    have hN : num s = (0, 3) := by simp only [num, hcut, hV, numR, hneg, Bool.false_and, if_pos hbig]; rfl
                    rw [hN]
                    exact done_tup [i64 0, i64 3] [] rfl ⟨.same, .same, trivial⟩
                  · conv => whnf
                    repeat (first | ((with_reducible first | apply ga | apply gb | apply gc | apply gd | apply ge | apply gf | apply gg | apply gh | apply gi | apply gj); conv => whnf) | (refine ⟨⟨rfl, rfl, nle rfl, nle rfl⟩, ?_⟩; conv => whnf) | fail)
                    refine ⟨fun e => absurd (((decide_eq_false hlen)).symm.trans e) (by decide), fun _ => ?_⟩
                    conv => whnf
                    repeat (first | ((with_reducible first | apply ga | apply gb | apply gc | apply gd | apply ge | apply gf | apply gg | apply gh | apply gi | apply gj); conv => whnf) | (refine ⟨⟨rfl, rfl, nle rfl, nle rfl⟩, ?_⟩; conv => whnf) | fail)
                    have hN : num s = (n, 0) := by simp only [num, hcut, hV, numR, hneg, Bool.false_and, if_neg (Int.not_lt.mpr hbig)]; rfl
                    rw [hN]
                    exact done_tup [i64 n, i64 0] [] rfl ⟨.same, .same, trivial⟩
            · conv => whnf
              repeat (first | ((with_reducible first | apply ga | apply gb | apply gc | apply gd | apply ge | apply gf | apply gg | apply gh | apply gi | apply gj); conv => whnf) | (refine ⟨⟨rfl, rfl, nle rfl, nle rfl⟩, ?_⟩; conv => whnf) | fail)
              have hV : numV s = none := by rw [numV_eq]; simp only [decide_eq_true h1l, h48, beq_self_eq_true, Bool.and_true, if_true, beq_eq_false_iff_ne.mpr h111, Bool.false_eq_true, if_false]
              have hN : num s = (0, 5) := by simp only [num, hcut, hV, numR]
              rw [hN]
              exact done_tup [i64 0, i64 5] [] rfl ⟨.same, .same, trivial⟩
          · conv => whnf
            repeat (first | ((with_reducible first | apply ga | apply gb | apply gc | apply gd | apply ge | apply gf | apply gg | apply gh | apply gi | apply gj); conv => whnf) | (refine ⟨⟨rfl, rfl, nle rfl, nle rfl⟩, ?_⟩; conv => whnf) | fail)
            have hV0 : numV s = valN 10 s := by rw [numV_eq]; simp only [beq_eq_false_iff_ne.mpr h48, Bool.and_false, Bool.false_eq_true, if_false]
            have hV := hV0.trans hv
            refine ⟨fun hz => ?_, fun hz => ?_⟩ <;> replace hz := nm hz <;> (try simp only [Int.toNat_zero] at hz) <;> (try simp only [Int.toNat_one] at hz)
            · conv => whnf
              repeat (first | ((with_reducible first | apply ga | apply gb | apply gc | apply gd | apply ge | apply gf | apply gg | apply gh | apply gi | apply gj); conv => whnf) | (refine ⟨⟨rfl, rfl, nle rfl, nle rfl⟩, ?_⟩; conv => whnf) | fail)
              refine ⟨fun e => absurd (((decide_eq_false hlen)).symm.trans e) (by decide), fun _ => ?_⟩
              conv => whnf
              repeat (first | ((with_reducible first | apply ga | apply gb | apply gc | apply gd | apply ge | apply gf | apply gg | apply gh | apply gi | apply gj); conv => whnf) | (refine ⟨⟨rfl, rfl, nle rfl, nle rfl⟩, ?_⟩; conv => whnf) | fail)
              refine ⟨fun hbig => ?_, fun hbig => ?_⟩ <;> replace hbig := nm hbig <;> (try simp only [Int.toNat_zero] at hbig) <;> (try simp only [Int.toNat_one] at hbig)
              · conv => whnf
                repeat (first | ((with_reducible first | apply ga | apply gb | apply gc | apply gd | apply ge | apply gf | apply gg | apply gh | apply gi | apply gj); conv => whnf) | (refine ⟨⟨rfl, rfl, nle rfl, nle rfl⟩, ?_⟩; conv => whnf) | fail)
                have hN : num s = (0, 3) := by simp only [num, hcut, hV, numR, hneg, Bool.false_and, if_pos hbig]; rfl
                rw [hN]
                exact done_tup [i64 0, i64 3] [] rfl ⟨.same, .same, trivial⟩
              · conv => whnf
                repeat (first | ((with_reducible first | apply ga | apply gb | apply gc | apply gd | apply ge | apply gf | apply gg | apply gh | apply gi | apply gj); conv => whnf) | (refine ⟨⟨rfl, rfl, nle rfl, nle rfl⟩, ?_⟩; conv => whnf) | fail)
                refine ⟨fun e => absurd (((decide_eq_false hlen)).symm.trans e) (by decide), fun _ => ?_⟩
                conv => whnf
                repeat (first | ((with_reducible first | apply ga | apply gb | apply gc | apply gd | apply ge | apply gf | apply gg | apply gh | apply gi | apply gj); conv => whnf) | (refine ⟨⟨rfl, rfl, nle rfl, nle rfl⟩, ?_⟩; conv => whnf) | fail)
                have hN : num s = (n, 0) := by simp only [num, hcut, hV, numR, hneg, Bool.false_and, if_neg (Int.not_lt.mpr hbig)]; rfl
                rw [hN]
                exact done_tup [i64 n, i64 0] [] rfl ⟨.same, .same, trivial⟩
            · conv => whnf
              repeat (first | ((with_reducible first | apply ga | apply gb | apply gc | apply gd | apply ge | apply gf | apply gg | apply gh | apply gi | apply gj); conv => whnf) | (refine ⟨⟨rfl, rfl, nle rfl, nle rfl⟩, ?_⟩; conv => whnf) | fail)
              refine ⟨fun hbig => ?_, fun hbig => ?_⟩ <;> replace hbig := nm hbig <;> (try simp only [Int.toNat_zero] at hbig) <;> (try simp only [Int.toNat_one] at hbig)
              · conv => whnf
                repeat (first | ((with_reducible first | apply ga | apply gb | apply gc | apply gd | apply ge | apply gf | apply gg | apply gh | apply gi | apply gj); conv => whnf) | (refine ⟨⟨rfl, rfl, nle rfl, nle rfl⟩, ?_⟩; conv => whnf) | fail)
                have hN : num s = (0, 3) := by simp only [num, hcut, hV, numR, hneg, Bool.false_and, if_pos hbig]; rfl
                rw [hN]
                exact done_tup [i64 0, i64 3] [] rfl ⟨.same, .same, trivial⟩
              · conv => whnf
                repeat (first | ((with_reducible first | apply ga | apply gb | apply gc | apply gd | apply ge | apply gf | apply gg | apply gh | apply gi | apply gj); conv => whnf) | (refine ⟨⟨rfl, rfl, nle rfl, nle rfl⟩, ?_⟩; conv => whnf) | fail)
                refine ⟨fun e => absurd (((decide_eq_false hlen)).symm.trans e) (by decide), fun _ => ?_⟩
                conv => whnf
                repeat (first | ((with_reducible first | apply ga | apply gb | apply gc | apply gd | apply ge | apply gf | apply gg | apply gh | apply gi | apply gj); conv => whnf) | (refine ⟨⟨rfl, rfl, nle rfl, nle rfl⟩, ?_⟩; conv => whnf) | fail)
                have hN : num s = (n, 0) := by simp only [num, hcut, hV, numR, hneg, Bool.false_and, if_neg (Int.not_lt.mpr hbig)]; rfl
                rw [hN]
                exact done_tup [i64 n, i64 0] [] rfl ⟨.same, .same, trivial⟩
        · conv => whnf
          repeat (first | ((with_reducible first | apply ga | apply gb | apply gc | apply gd | apply ge | apply gf | apply gg | apply gh | apply gi | apply gj); conv => whnf) | (refine ⟨⟨rfl, rfl, nle rfl, nle rfl⟩, ?_⟩; conv => whnf) | fail)
          have hV0 : numV s = valN 10 s := by rw [numV_eq]; simp only [decide_eq_false (Int.not_lt.mpr h1l), Bool.false_and, Bool.false_eq_true, if_false]
          have hV := hV0.trans hv
          refine ⟨fun hz => ?_, fun hz => ?_⟩ <;> replace hz := nm hz <;> (try simp only [Int.toNat_zero] at hz) <;> (try simp only [Int.toNat_one] at hz)
          · conv => whnf
            repeat (first | ((with_reducible first | apply ga | apply gb | apply gc | apply gd | apply ge | apply gf | apply gg | apply gh | apply gi | apply gj); conv => whnf) | (refine ⟨⟨rfl, rfl, nle rfl, nle rfl⟩, ?_⟩; conv => whnf) | fail)
            refine ⟨fun e => absurd (((decide_eq_false hlen)).symm.trans e) (by decide), fun _ => ?_⟩
            conv => whnf
            repeat (first | ((with_reducible first | apply ga | apply gb | apply gc | apply gd | apply ge | apply gf | apply gg | apply gh | apply gi | apply gj); conv => whnf) | (refine ⟨⟨rfl, rfl, nle rfl, nle rfl⟩, ?_⟩; conv => whnf) | fail)
            refine ⟨fun hbig => ?_, fun hbig => ?_⟩ <;> replace hbig := nm hbig <;> (try simp only [Int.toNat_zero] at hbig) <;> (try simp only [Int.toNat_one] at hbig)
            · conv => whnf
              repeat (first | ((with_reducible first | apply ga | apply gb | apply gc | apply gd | apply ge | apply gf | apply gg | apply gh | apply gi | apply gj); conv => whnf) | (refine ⟨⟨rfl, rfl, nle rfl, nle rfl⟩, ?_⟩; conv => whnf) | fail)
              have hN : num s = (0, 3) := by simp only [num, hcut, hV, numR, hneg, Bool.false_and, if_pos hbig]; rfl
              rw [hN]
              exact done_tup [i64 0, i64 3] [] rfl ⟨.same, .same, trivial⟩
            · conv => whnf
              repeat (first | ((with_reducible first | apply ga | apply gb | apply gc | apply gd | apply ge | apply gf | apply gg | apply gh | apply gi | apply gj); conv => whnf) | (refine ⟨⟨rfl, rfl, nle rfl, nle rfl⟩, ?_⟩; conv => whnf) | fail)
              refine ⟨fun e => absurd (((decide_eq_false hlen)).symm.trans e) (by decide), fun _ => ?_⟩
              conv => whnf
              repeat (first | ((with_reducible first | apply ga | apply gb | apply gc | apply gd | apply ge | apply gf | apply gg | apply gh | apply gi | apply gj); conv => whnf) | (refine ⟨⟨rfl, rfl, nle rfl, nle rfl⟩, ?_⟩; conv => whnf) | fail)
              have hN : num s = (n, 0) := by simp only [num, hcut, hV, numR, hneg, Bool.false_and, if_neg (Int.not_lt.mpr hbig)]; rfl
              rw [hN]
              exact done_tup [i64 n, i64 0] [] rfl ⟨.same, .same, trivial⟩
          · conv => whnf
            repeat (first | ((with_reducible first | apply ga | apply gb | apply gc | apply gd | apply ge | apply gf | apply gg | apply gh | apply gi | apply gj); conv => whnf) | (refine ⟨⟨rfl, rfl, nle rfl, nle rfl⟩, ?_⟩; conv => whnf) | fail)
            refine ⟨fun hbig => ?_, fun hbig => ?_⟩ <;> replace hbig := nm hbig <;> (try simp only [Int.toNat_zero] at hbig) <;> (try simp only [Int.toNat_one] at hbig)
            · conv => whnf
              repeat (first | ((with_reducible first | apply ga | apply gb | apply gc | apply gd | apply ge | apply gf | apply gg | apply gh | apply gi | apply gj); conv => whnf) | (refine ⟨⟨rfl, rfl, nle rfl, nle rfl⟩, ?_⟩; conv => whnf) | fail)
              have hN : num s = (0, 3) := by simp only [num, hcut, hV, numR, hneg, Bool.false_and, if_pos hbig]; rfl
              rw [hN]
              exact done_tup [i64 0, i64 3] [] rfl ⟨.same, .same, trivial⟩
            · conv => whnf
              repeat (first | ((with_reducible first | apply ga | apply gb | apply gc | apply gd | apply ge | apply gf | apply gg | apply gh | apply gi | apply gj); conv => whnf) | (refine ⟨⟨rfl, rfl, nle rfl, nle rfl⟩, ?_⟩; conv => whnf) | fail)
              refine ⟨fun e => absurd (((decide_eq_false hlen)).symm.trans e) (by decide), fun _ => ?_⟩
              conv => whnf
              repeat (first | ((with_reducible first | apply ga | apply gb | apply gc | apply gd | apply ge | apply gf | apply gg | apply gh | apply gi | apply gj); conv => whnf) | (refine ⟨⟨rfl, rfl, nle rfl, nle rfl⟩, ?_⟩; conv => whnf) | fail)
              have hN : num s = (n, 0) := by simp only [num, hcut, hV, numR, hneg, Bool.false_and, if_neg (Int.not_lt.mpr hbig)]; rfl
              rw [hN]
              exact done_tup [i64 n, i64 0] [] rfl ⟨.same, .same, trivial⟩
  · conv => whnf
    repeat (first | ((with_reducible first | apply ga | apply gb | apply gc | apply gd | apply ge | apply gf | apply gg | apply gh | apply gi | apply gj); conv => whnf) | (refine ⟨⟨rfl, rfl, nle rfl, nle rfl⟩, ?_⟩; conv => whnf) | fail)
    have hneg : [45].isPrefixOf s = false := by rw [pre1, decide_eq_false (Int.not_lt.mpr h0), Bool.false_and]
    have hcut : cutP [45] s = s := by rw [cutP, hneg]; rfl
    have hlen : ¬ ((s.length : Int) < s.length) := by omega
    have hr : B62 s := hs
    have hc := f36' s hr 10 (.inr rfl)
    cases hv : valN 10 s with
    | none =>
      rw [hv] at hc
      refine CallK.flat [] hc ⟨.same, .same, trivial⟩ rfl ?_
      conv => whnf
      repeat (first | ((with_reducible first | apply ga | apply gb | apply gc | apply gd | apply ge | apply gf | apply gg | apply gh | apply gi | apply gj); conv => whnf) | (refine ⟨⟨rfl, rfl, nle rfl, nle rfl⟩, ?_⟩; conv => whnf) | fail)
      refine ⟨fun h1l => ?_, fun h1l => ?_⟩ <;> replace h1l := nm h1l <;> (try simp only [Int.toNat_zero] at h1l) <;> (try simp only [Int.toNat_one] at h1l)
      · conv => whnf
        repeat (first | ((with_reducible first | apply ga | apply gb | apply gc | apply gd | apply ge | apply gf | apply gg | apply gh | apply gi | apply gj); conv => whnf) | (refine ⟨⟨rfl, rfl, nle rfl, nle rfl⟩, ?_⟩; conv => whnf) | fail)
        refine ⟨⟨by omega, by omega⟩, ?_⟩
        conv => whnf
        repeat (first | ((with_reducible first | apply ga | apply gb | apply gc | apply gd | apply ge | apply gf | apply gg | apply gh | apply gi | apply gj); conv => whnf) | (refine ⟨⟨rfl, rfl, nle rfl, nle rfl⟩, ?_⟩; conv => whnf) | fail)
        refine ⟨fun h48 => ?_, fun h48 => ?_⟩ <;> replace h48 := nm h48 <;> (try simp only [Int.toNat_zero] at h48) <;> (try simp only [Int.toNat_one] at h48)
        · conv => whnf
          repeat (first | ((with_reducible first | apply ga | apply gb | apply gc | apply gd | apply ge | apply gf | apply gg | apply gh | apply gi | apply gj); conv => whnf) | (refine ⟨⟨rfl, rfl, nle rfl, nle rfl⟩, ?_⟩; conv => whnf) | fail)
          refine ⟨⟨by omega, by omega⟩, ?_⟩
          conv => whnf
          repeat (first | ((with_reducible first | apply ga | apply gb | apply gc | apply gd | apply ge | apply gf | apply gg | apply gh | apply gi | apply gj); conv => whnf) | (refine ⟨⟨rfl, rfl, nle rfl, nle rfl⟩, ?_⟩; conv => whnf) | fail)
          refine ⟨fun h111 => ?_, fun h111 => ?_⟩ <;> replace h111 := nm h111 <;> (try simp only [Int.toNat_zero] at h111) <;> (try simp only [Int.toNat_one] at h111)
          · conv => whnf
            repeat (first | ((with_reducible first | apply ga | apply gb | apply gc | apply gd | apply ge | apply gf | apply gg | apply gh | apply gi | apply gj); conv => whnf) | (refine ⟨⟨rfl, rfl, nle rfl, nle rfl⟩, ?_⟩; conv => whnf) | fail)
            refine ⟨⟨by omega, by omega⟩, ?_⟩
            conv => whnf
            repeat (first | ((with_reducible first | apply ga | apply gb | apply gc | apply gd | apply ge | apply gf | apply gg | apply gh | apply gi | apply gj); conv => whnf) | (refine ⟨⟨rfl, rfl, nle rfl, nle rfl⟩, ?_⟩; conv => whnf) | fail)
            have hV0 : numV s = valN 8 (s.drop 2) := by rw [numV_eq]; simp only [decide_eq_true h1l, h48, h111, beq_self_eq_true, Bool.and_true, if_true]
            have hc8 := f36' (s.drop 2) (by have := hr; unfold B62 at this ⊢; simp; omega) 8 (.inl rfl)
            cases hv8 : valN 8 (s.drop 2) with
            | none =>
              have hV := hV0.trans hv8
              rw [hv8] at hc8
              refine CallK.flat [] hc8 ⟨.same, .same, trivial⟩ rfl ?_
              conv => whnf
              repeat (first | ((with_reducible first | apply ga | apply gb | apply gc | apply gd | apply ge | apply gf | apply gg | apply gh | apply gi | apply gj); conv => whnf) | (refine ⟨⟨rfl, rfl, nle rfl, nle rfl⟩, ?_⟩; conv => whnf) | fail)
              have hN : num s = (0, 5) := by simp only [num, hcut, hV, numR]
              rw [hN]
              exact done_tup [i64 0, i64 5] [] rfl ⟨.same, .same, trivial⟩
            | some n =>
              have hV := hV0.trans hv8
              have hn := valN_some (.inl rfl) hv8
              rw [hv8] at hc8
              refine CallK.flat [] hc8 ⟨.same, .same, trivial⟩ rfl ?_
              conv => whnf
              repeat (first | ((with_reducible first | apply ga | apply gb | apply gc | apply gd | apply ge | apply gf | apply gg | apply gh | apply gi | apply gj); conv => whnf) | (refine ⟨⟨rfl, rfl, nle rfl, nle rfl⟩, ?_⟩; conv => whnf) | fail)
              refine ⟨fun hz => ?_, fun hz => ?_⟩ <;> replace hz := nm hz <;> (try simp only [Int.toNat_zero] at hz) <;> (try simp only [Int.toNat_one] at hz)
              · conv => whnf
                repeat (first | ((with_reducible first | apply ga | apply gb | apply gc | apply gd | apply ge | apply gf | apply gg | apply gh | apply gi | apply gj); conv => whnf) | (refine ⟨⟨rfl, rfl, nle rfl, nle rfl⟩, ?_⟩; conv => whnf) | fail)
                refine ⟨fun e => absurd (((decide_eq_false hlen)).symm.trans e) (by decide), fun _ => ?_⟩
                conv => whnf
                repeat (first | ((with_reducible first | apply ga | apply gb | apply gc | apply gd | apply ge | apply gf | apply gg | apply gh | apply gi | apply gj); conv => whnf) | (refine ⟨⟨rfl, rfl, nle rfl, nle rfl⟩, ?_⟩; conv => whnf) | fail)
                refine ⟨fun hbig => ?_, fun hbig => ?_⟩ <;> replace hbig := nm hbig <;> (try simp only [Int.toNat_zero] at hbig) <;> (try simp only [Int.toNat_one] at hbig)
                · conv => whnf
                  repeat (first | ((with_reducible first | apply ga | apply gb | apply gc | apply gd | apply ge | apply gf | apply gg | apply gh | apply gi | apply gj); conv => whnf) | (refine ⟨⟨rfl, rfl, nle rfl, nle rfl⟩, ?_⟩; conv => whnf) | fail)
                  have hN : num s = (0, 3) := by simp only [num, hcut, hV, numR, hneg, Bool.false_and, if_pos hbig]; rfl
                  rw [hN]
                  exact done_tup [i64 0, i64 3] [] rfl ⟨.same, .same, trivial⟩
                · conv => whnf
                  repeat (first | ((with_reducible first | apply ga | apply gb | apply gc | apply gd | apply ge | apply gf | apply gg | apply gh | apply gi | apply gj); conv => whnf) | (refine ⟨⟨rfl, rfl, nle rfl, nle rfl⟩, ?_⟩; conv => whnf) | fail)
                  refine ⟨fun e => absurd (((decide_eq_false hlen)).symm.trans e) (by decide), fun _ => ?_⟩
                  conv => whnf
                  repeat (first | ((with_reducible first | apply ga | apply gb | apply gc | apply gd | apply ge | apply gf | apply gg | apply gh | apply gi | apply gj); conv => whnf) | (refine ⟨⟨rfl, rfl, nle rfl, nle rfl⟩, ?_⟩; conv => whnf) | fail)
                  have hN : num s = (n, 0) := by simp only [num, hcut, hV, numR, hneg, Bool.false_and, if_neg (Int.not_lt.mpr hbig)]; rfl
                  rw [hN]
                  exact done_tup [i64 n, i64 0] [] rfl ⟨.same, .same, trivial⟩
              · conv => whnf
                repeat (first | ((with_reducible first | apply ga | apply gb | apply gc | apply gd | apply ge | apply gf | apply gg | apply gh | apply gi | apply gj); conv => whnf) | (refine ⟨⟨rfl, rfl, nle rfl, nle rfl⟩, ?_⟩; conv => whnf) | fail)
                refine ⟨fun hbig => ?_, fun hbig => ?_⟩ <;> replace hbig := nm hbig <;> (try simp only [Int.toNat_zero] at hbig) <;> (try simp only [Int.toNat_one] at hbig)
                · conv => whnf
                  repeat (first | ((with_reducible first | apply ga | apply gb | apply gc | apply gd | apply ge | apply gf | apply gg | apply gh | apply gi | apply gj); conv => whnf) | (refine ⟨⟨rfl, rfl, nle rfl, nle rfl⟩, ?_⟩; conv => whnf) | fail)
                  have hN : num s = (0, 3) := by simp only [num, hcut, hV, numR, hneg, Bool.false_and, if_pos hbig]; rfl
                  rw [hN]
                  exact done_tup [i64 0, i64 3] [] rfl ⟨.same, .same, trivial⟩
                · conv => whnf
                  repeat (first | ((with_reducible first | apply ga | apply gb | apply gc | apply gd | apply ge | apply gf | apply gg | apply gh | apply gi | apply gj); conv => whnf) | (refine ⟨⟨rfl, rfl, nle rfl, nle rfl⟩, ?_⟩; conv => whnf) | fail)
                  refine ⟨fun e => absurd (((decide_eq_false hlen)).symm.trans e) (by decide), fun _ => ?_⟩
                  conv => whnf
                  repeat (first | ((with_reducible first | apply ga | apply gb | apply gc | apply gd | apply ge | apply gf | apply gg | apply gh | apply gi | apply gj); conv => whnf) | (refine ⟨⟨rfl, rfl, nle rfl, nle rfl⟩, ?_⟩; conv => whnf) | fail)
                  have hN : num s = (n, 0) := by simp only [num, hcut, hV, numR, hneg, Bool.false_and, if_neg (Int.not_lt.mpr hbig)]; rfl
                  rw [hN]
                  exact done_tup [i64 n, i64 0] [] rfl ⟨.same, .same, trivial⟩
          · conv => whnf
            repeat (first | ((with_reducible first | apply ga | apply gb | apply gc | apply gd | apply ge | apply gf | apply gg | apply gh | apply gi | apply gj); conv => whnf) | (refine ⟨⟨rfl, rfl, nle rfl, nle rfl⟩, ?_⟩; conv => whnf) | fail)
            have hV : numV s = none := by rw [numV_eq]; simp only [decide_eq_true h1l, h48, beq_self_eq_true, Bool.and_true, if_true, beq_eq_false_iff_ne.mpr h111, Bool.false_eq_true, if_false]
            have hN : num s = (0, 5) := by simp only [num, hcut, hV, numR]
            rw [hN]
            exact done_tup [i64 0, i64 5] [] rfl ⟨.same, .same, trivial⟩
        · conv => whnf
          repeat (first | ((with_reducible first | apply ga | apply gb | apply gc | apply gd | apply ge | apply gf | apply gg | apply gh | apply gi | apply gj); conv => whnf) | (refine ⟨⟨rfl, rfl, nle rfl, nle rfl⟩, ?_⟩; conv => whnf) | fail)
          have hV0 : numV s = valN 10 s := by rw [numV_eq]; simp only [beq_eq_false_iff_ne.mpr h48, Bool.and_false, Bool.false_eq_true, if_false]
          have hV := hV0.trans hv
          have hN : num s = (0, 5) := by simp only [num, hcut, hV, numR]
          rw [hN]
          exact done_tup [i64 0, i64 5] [] rfl ⟨.same, .same, trivial⟩
      · conv => whnf
        repeat (first | ((with_reducible first | apply ga | apply gb | apply gc | apply gd | apply ge | apply gf | apply gg | apply gh | apply gi | apply gj); conv => whnf) | (refine ⟨⟨rfl, rfl, nle rfl, nle rfl⟩, ?_⟩; conv => whnf) | fail)
        have hV0 : numV s = valN 10 s := by rw [numV_eq]; simp only [decide_eq_false (Int.not_lt.mpr h1l), Bool.false_and, Bool.false_eq_true, if_false]
        have hV := hV0.trans hv
        have hN : num s = (0, 5) := by simp only [num, hcut, hV, numR]
        rw [hN]
        exact done_tup [i64 0, i64 5] [] rfl ⟨.same, .same, trivial⟩
    | some n =>
      have hn := valN_some (.inr rfl) hv
      rw [hv] at hc
      refine CallK.flat [] hc ⟨.same, .same, trivial⟩ rfl ?_
      conv => whnf
      repeat (first | ((with_reducible first | apply ga | apply gb | apply gc | apply gd | apply ge | apply gf | apply gg | apply gh | apply gi | apply gj); conv => whnf) | (refine ⟨⟨rfl, rfl, nle rfl, nle rfl⟩, ?_⟩; conv => whnf) | fail)
      refine ⟨fun h1l => ?_, fun h1l => ?_⟩ <;> replace h1l := nm h1l <;> (try simp only [Int.toNat_zero] at h1l) <;> (try simp only [Int.toNat_one] at h1l)
      · conv => whnf
        repeat (first | ((with_reducible first | apply ga | apply gb | apply gc | apply gd | apply ge | apply gf | apply gg | apply gh | apply gi | apply gj); conv => whnf) | (refine ⟨⟨rfl, rfl, nle rfl, nle rfl⟩, ?_⟩; conv => whnf) | fail)
        refine ⟨⟨by omega, by omega⟩, ?_⟩
        conv => whnf
        repeat (first | ((with_reducible first | apply ga | apply gb | apply gc | apply gd | apply ge | apply gf | apply gg | apply gh | apply gi | apply gj); conv => whnf) | (refine ⟨⟨rfl, rfl, nle rfl, nle rfl⟩, ?_⟩; conv => whnf) | fail)
        refine ⟨fun h48 => ?_, fun h48 => ?_⟩ <;> replace h48 := nm h48 <;> (try simp only [Int.toNat_zero] at h48) <;> (try simp only [Int.toNat_one] at h48)
        · conv => whnf
          repeat (first | ((with_reducible first | apply ga | apply gb | apply gc | apply gd | apply ge | apply gf | apply gg | apply gh | apply gi | apply gj); conv => whnf) | (refine ⟨⟨rfl, rfl, nle rfl, nle rfl⟩, ?_⟩; conv => whnf) | fail)
          refine ⟨⟨by omega, by omega⟩, ?_⟩
          conv => whnf
          repeat (first | ((with_reducible first | apply ga | apply gb | apply gc | apply gd | apply ge | apply gf | apply gg | apply gh | apply gi | apply gj); conv => whnf) | (refine ⟨⟨rfl, rfl, nle rfl, nle rfl⟩, ?_⟩; conv => whnf) | fail)
          refine ⟨fun h111 => ?_, fun h111 => ?_⟩ <;> replace h111 := nm h111 <;> (try simp only [Int.toNat_zero] at h111) <;> (try simp only [Int.toNat_one] at h111)
          · conv => whnf
            repeat (first | ((with_reducible first | apply ga | apply gb | apply gc | apply gd | apply ge | apply gf | apply gg | apply gh | apply gi | apply gj); conv => whnf) | (refine ⟨⟨rfl, rfl, nle rfl, nle rfl⟩, ?_⟩; conv => whnf) | fail)
            refine ⟨⟨by omega, by omega⟩, ?_⟩
            conv => whnf
            repeat (first | ((with_reducible first | apply ga | apply gb | apply gc | apply gd | apply ge | apply gf | apply gg | apply gh | apply gi | apply gj); conv => whnf) | (refine ⟨⟨rfl, rfl, nle rfl, nle rfl⟩, ?_⟩; conv => whnf) | fail)
            have hV0 : numV s = valN 8 (s.drop 2) := by rw [numV_eq]; simp only [decide_eq_true h1l, h48, h111, beq_self_eq_true, Bool.and_true, if_true]
            have hc8 := f36' (s.drop 2) (by have := hr; unfold B62 at this ⊢; simp; omega) 8 (.inl rfl)
            cases hv8 : valN 8 (s.drop 2) with
            | none =>
              have hV := hV0.trans hv8
              rw [hv8] at hc8
              refine CallK.flat [] hc8 ⟨.same, .same, trivial⟩ rfl ?_
              conv => whnf
              repeat (first | ((with_reducible first | apply ga | apply gb | apply gc | apply gd | apply ge | apply gf | apply gg | apply gh | apply gi | apply gj); conv => whnf) | (refine ⟨⟨rfl, rfl, nle rfl, nle rfl⟩, ?_⟩; conv => whnf) | fail)
              have hN : num s = (0, 5) := by simp only [num, hcut, hV, numR]
              rw [hN]
              exact done_tup [i64 0, i64 5] [] rfl ⟨.same, .same, trivial⟩
            | some n =>
              have hV := hV0.trans hv8
              have hn := valN_some (.inl rfl) hv8
              rw [hv8] at hc8
              refine CallK.flat [] hc8 ⟨.same, .same, trivial⟩ rfl ?_
              conv => whnf
              repeat (first | ((with_reducible first | apply ga | apply gb | apply gc | apply gd | apply ge | apply gf | apply gg | apply gh | apply gi | apply gj); conv => whnf) | (refine ⟨⟨rfl, rfl, nle rfl, nle rfl⟩, ?_⟩; conv => whnf) | fail)
              refine ⟨fun hz => ?_, fun hz => ?_⟩ <;> replace hz := nm hz <;> (try simp only [Int.toNat_zero] at hz) <;> (try simp only [Int.toNat_one] at hz)
              · conv => whnf
                repeat (first | ((with_reducible first | apply ga | apply gb | apply gc | apply gd | apply ge | apply gf | apply gg | apply gh | apply gi | apply gj); conv => whnf) | (refine ⟨⟨rfl, rfl, nle rfl, nle rfl⟩, ?_⟩; conv => whnf) | fail)
                refine ⟨fun e => absurd (((decide_eq_false hlen)).symm.trans e) (by decide), fun _ => ?_⟩
                conv => whnf
                repeat (first | ((with_reducible first | apply ga | apply gb | apply gc | apply gd | apply ge | apply gf | apply gg | apply gh | apply gi | apply gj); conv => whnf) | (refine ⟨⟨rfl, rfl, nle rfl, nle rfl⟩, ?_⟩; conv => whnf) | fail)
                refine ⟨fun hbig => ?_, fun hbig => ?_⟩ <;> replace hbig := nm hbig <;> (try simp only [Int.toNat_zero] at hbig) <;> (try simp only [Int.toNat_one] at hbig)
                · conv => whnf
                  repeat (first | ((with_reducible first | apply ga | apply gb | apply gc | apply gd | apply ge | apply gf | apply gg | apply gh | apply gi | apply gj); conv => whnf) | (refine ⟨⟨rfl, rfl, nle rfl, nle rfl⟩, ?_⟩; conv => whnf) | fail)
                  have hN : num s = (0, 3) := by simp only [num, hcut, hV, numR, hneg, Bool.false_and, if_pos hbig]; rfl
                  rw [hN]
                  exact done_tup [i64 0, i64 3] [] rfl ⟨.same, .same, trivial⟩
                · conv => whnf
                  repeat (first | ((with_reducible first | apply ga | apply gb | apply gc | apply gd | apply ge | apply gf | apply gg | apply gh | apply gi | apply gj); conv => whnf) | (refine ⟨⟨rfl, rfl, nle rfl, nle rfl⟩, ?_⟩; conv => whnf) | fail)
                  refine ⟨fun e => absurd (((decide_eq_false hlen)).symm.trans e) (by decide), fun _ => ?_⟩
                  conv => whnf
                  repeat (first | ((with_reducible first | apply ga | apply gb | apply gc | apply gd | apply ge | apply gf | apply gg | apply gh | apply gi | apply gj); conv => whnf) | (refine ⟨⟨rfl, rfl, nle rfl, nle rfl⟩, ?_⟩; conv => whnf) | fail)
                  have hN : num s = (n, 0) := by simp only [num, hcut, hV, numR, hneg, Bool.false_and, if_neg (Int.not_lt.mpr hbig)]; rfl
                  rw [hN]
                  exact done_tup [i64 n, i64 0] [] rfl ⟨.same, .same, trivial⟩
              · conv => whnf
                repeat (first | ((with_reducible first | apply ga | apply gb | apply gc | apply gd | apply ge | apply gf | apply gg | apply gh | apply gi | apply gj); conv => whnf) | (refine ⟨⟨rfl, rfl, nle rfl, nle rfl⟩, ?_⟩; conv => whnf) | fail)
                refine ⟨fun hbig => ?_, fun hbig => ?_⟩ <;> replace hbig := nm hbig <;> (try simp only [Int.toNat_zero] at hbig) <;> (try simp only [Int.toNat_one] at hbig)
                · conv => whnf
                  repeat (first | ((with_reducible first | apply ga | apply gb | apply gc | apply gd | apply ge | apply gf | apply gg | apply gh | apply gi | apply gj); conv => whnf) | (refine ⟨⟨rfl, rfl, nle rfl, nle rfl⟩, ?_⟩; conv => whnf) | fail)
                  have hN : num s = (0, 3) := by simp only [num, hcut, hV, numR, hneg, Bool.false_and, if_pos hbig]; rfl
                  rw [hN]
                  exact done_tup [i64 0, i64 3] [] rfl ⟨.same, .same, trivial⟩
                · conv => whnf
                  repeat (first | ((with_reducible first | apply ga | apply gb | apply gc | apply gd | apply ge | apply gf | apply gg | apply gh | apply gi | apply gj); conv => whnf) | (refine ⟨⟨rfl, rfl, nle rfl, nle rfl⟩, ?_⟩; conv => whnf) | fail)
                  refine ⟨fun e => absurd (((decide_eq_false hlen)).symm.trans e) (by decide), fun _ => ?_⟩
                  conv => whnf
                  repeat (first | ((with_reducible first | apply ga | apply gb | apply gc | apply gd | apply ge | apply gf | apply gg | apply gh | apply gi | apply gj); conv => whnf) | (refine ⟨⟨rfl, rfl, nle rfl, nle rfl⟩, ?_⟩; conv => whnf) | fail)
                  have hN : num s = (n, 0) := by simp only [num, hcut, hV, numR, hneg, Bool.false_and, if_neg (Int.not_lt.mpr hbig)]; rfl
                  rw [hN]
                  exact done_tup [i64 n, i64 0] [] rfl ⟨.same, .same, trivial⟩
          · conv => whnf
            repeat (first | ((with_reducible first | apply ga | apply gb | apply gc | apply gd | apply ge | apply gf | apply gg | apply gh | apply gi | apply gj); conv => whnf) | (refine ⟨⟨rfl, rfl, nle rfl, nle rfl⟩, ?_⟩; conv => whnf) | fail)
            have hV : numV s = none := by rw [numV_eq]; simp only [decide_eq_true h1l, h48, beq_self_eq_true, Bool.and_true, if_true, beq_eq_false_iff_ne.mpr h111, Bool.false_eq_true, if_false]
            have hN : num s = (0, 5) := by simp only [num, hcut, hV, numR]
            rw [hN]
            exact done_tup [i64 0, i64 5] [] rfl ⟨.same, .same, trivial⟩
        · conv => whnf
          repeat (first | ((with_reducible first | apply ga | apply gb | apply gc | apply gd | apply ge | apply gf | apply gg | apply gh | apply gi | apply gj); conv => whnf) | (refine ⟨⟨rfl, rfl, nle rfl, nle rfl⟩, ?_⟩; conv => whnf) | fail)
          have hV0 : numV s = valN 10 s := by rw [numV_eq]; simp only [beq_eq_false_iff_ne.mpr h48, Bool.and_false, Bool.false_eq_true, if_false]
          have hV := hV0.trans hv
          refine ⟨fun hz => ?_, fun hz => ?_⟩ <;> replace hz := nm hz <;> (try simp only [Int.toNat_zero] at hz) <;> (try simp only [Int.toNat_one] at hz)
          · conv => whnf
            repeat (first | ((with_reducible first | apply ga | apply gb | apply gc | apply gd | apply ge | apply gf | apply gg | apply gh | apply gi | apply gj); conv => whnf) | (refine ⟨⟨rfl, rfl, nle rfl, nle rfl⟩, ?_⟩; conv => whnf) | fail)
            refine ⟨fun e => absurd (((decide_eq_false hlen)).symm.trans e) (by decide), fun _ => ?_⟩
            conv => whnf
            repeat (first | ((with_reducible first | apply ga | apply gb | apply gc | apply gd | apply ge | apply gf | apply gg | apply gh | apply gi | apply gj); conv => whnf) | (refine ⟨⟨rfl, rfl, nle rfl, nle rfl⟩, ?_⟩; conv => whnf) | fail)
            refine ⟨fun hbig => ?_, fun hbig => ?_⟩ <;> replace hbig := nm hbig <;> (try simp only [Int.toNat_zero] at hbig) <;> (try simp only [Int.toNat_one] at hbig)
            · conv => whnf
              repeat (first | ((with_reducible first | apply ga | apply gb | apply gc | apply gd | apply ge | apply gf | apply gg | apply gh | apply gi | apply gj); conv => whnf) | (refine ⟨⟨rfl, rfl, nle rfl, nle rfl⟩, ?_⟩; conv => whnf) | fail)
              have hN : num s = (0, 3) := by simp only [num, hcut, hV, numR, hneg, Bool.false_and, if_pos hbig]; rfl
              rw [hN]
              exact done_tup [i64 0, i64 3] [] rfl ⟨.same, .same, trivial⟩
            · conv => whnf
              repeat (first | ((with_reducible first | apply ga | apply gb | apply gc | apply gd | apply ge | apply gf | apply gg | apply gh | apply gi | apply gj); conv => whnf) | (refine ⟨⟨rfl, rfl, nle rfl, nle rfl⟩, ?_⟩; conv => whnf) | fail)
              refine ⟨fun e => absurd (((decide_eq_false hlen)).symm.trans e) (by decide), fun _ => ?_⟩
              conv => whnf
              repeat (first | ((with_reducible first | apply ga | apply gb | apply gc | apply gd | apply ge | apply gf | apply gg | apply gh | apply gi | apply gj); conv => whnf) | (refine ⟨⟨rfl, rfl, nle rfl, nle rfl⟩, ?_⟩; conv => whnf) | fail)
              have hN : num s = (n, 0) := by simp only [num, hcut, hV, numR, hneg, Bool.false_and, if_neg (Int.not_lt.mpr hbig)]; rfl
              rw [hN]
              exact done_tup [i64 n, i64 0] [] rfl ⟨.same, .same, trivial⟩
          · conv => whnf
            repeat (first | ((with_reducible first | apply ga | apply gb | apply gc | apply gd | apply ge | apply gf | apply gg | apply gh | apply gi | apply gj); conv => whnf) | (refine ⟨⟨rfl, rfl, nle rfl, nle rfl⟩, ?_⟩; conv => whnf) | fail)
            refine ⟨fun hbig => ?_, fun hbig => ?_⟩ <;> replace hbig := nm hbig <;> (try simp only [Int.toNat_zero] at hbig) <;> (try simp only [Int.toNat_one] at hbig)
            · conv => whnf
              repeat (first | ((with_reducible first | apply ga | apply gb | apply gc | apply gd | apply ge | apply gf | apply gg | apply gh | apply gi | apply gj); conv => whnf) | (refine ⟨⟨rfl, rfl, nle rfl, nle rfl⟩, ?_⟩; conv => whnf) | fail)
              have hN : num s = (0, 3) := by simp only [num, hcut, hV, numR, hneg, Bool.false_and, if_pos hbig]; rfl
              rw [hN]
              exact done_tup [i64 0, i64 3] [] rfl ⟨.same, .same, trivial⟩
            · conv => whnf
              repeat (first | ((with_reducible first | apply ga | apply gb | apply gc | apply gd | apply ge | apply gf | apply gg | apply gh | apply gi | apply gj); conv => whnf) | (refine ⟨⟨rfl, rfl, nle rfl, nle rfl⟩, ?_⟩; conv => whnf) | fail)
              refine ⟨fun e => absurd (((decide_eq_false hlen)).symm.trans e) (by decide), fun _ => ?_⟩
              conv => whnf
              repeat (first | ((with_reducible first | apply ga | apply gb | apply gc | apply gd | apply ge | apply gf | apply gg | apply gh | apply gi | apply gj); conv => whnf) | (refine ⟨⟨rfl, rfl, nle rfl, nle rfl⟩, ?_⟩; conv => whnf) | fail)
              have hN : num s = (n, 0) := by simp only [num, hcut, hV, numR, hneg, Bool.false_and, if_neg (Int.not_lt.mpr hbig)]; rfl
              rw [hN]
              exact done_tup [i64 n, i64 0] [] rfl ⟨.same, .same, trivial⟩
      · conv => whnf
        repeat (first | ((with_reducible first | apply ga | apply gb | apply gc | apply gd | apply ge | apply gf | apply gg | apply gh | apply gi | apply gj); conv => whnf) | (refine ⟨⟨rfl, rfl, nle rfl, nle rfl⟩, ?_⟩; conv => whnf) | fail)
        have hV0 : numV s = valN 10 s := by rw [numV_eq]; simp only [decide_eq_false (Int.not_lt.mpr h1l), Bool.false_and, Bool.false_eq_true, if_false]
        have hV := hV0.trans hv
        refine ⟨fun hz => ?_, fun hz => ?_⟩ <;> replace hz := nm hz <;> (try simp only [Int.toNat_zero] at hz) <;> (try simp only [Int.toNat_one] at hz)
        · conv => whnf
          repeat (first | ((with_reducible first | apply ga | apply gb | apply gc | apply gd | apply ge | apply gf | apply gg | apply gh | apply gi | apply gj); conv => whnf) | (refine ⟨⟨rfl, rfl, nle rfl, nle rfl⟩, ?_⟩; conv => whnf) | fail)
          refine ⟨fun e => absurd (((decide_eq_false hlen)).symm.trans e) (by decide), fun _ => ?_⟩
          conv => whnf
          repeat (first | ((with_reducible first | apply ga | apply gb | apply gc | apply gd | apply ge | apply gf | apply gg | apply gh | apply gi | apply gj); conv => whnf) | (refine ⟨⟨rfl, rfl, nle rfl, nle rfl⟩, ?_⟩; conv => whnf) | fail)
          refine ⟨fun hbig => ?_, fun hbig => ?_⟩ <;> replace hbig := nm hbig <;> (try simp only [Int.toNat_zero] at hbig) <;> (try simp only [Int.toNat_one] at hbig)
          · conv => whnf
            repeat (first | ((with_reducible first | apply ga | apply gb | apply gc | apply gd | apply ge | apply gf | apply gg | apply gh | apply gi | apply gj); conv => whnf) | (refine ⟨⟨rfl, rfl, nle rfl, nle rfl⟩, ?_⟩; conv => whnf) | fail)
            have hN : num s = (0, 3) := by simp only [num, hcut, hV, numR, hneg, Bool.false_and, if_pos hbig]; rfl
            rw [hN]
            exact done_tup [i64 0, i64 3] [] rfl ⟨.same, .same, trivial⟩
          · conv => whnf
            repeat (first | ((with_reducible first | apply ga | apply gb | apply gc | apply gd | apply ge | apply gf | apply gg | apply gh | apply gi | apply gj); conv => whnf) | (refine ⟨⟨rfl, rfl, nle rfl, nle rfl⟩, ?_⟩; conv => whnf) | fail)
            refine ⟨fun e => absurd (((decide_eq_false hlen)).symm.trans e) (by decide), fun _ => ?_⟩
            conv => whnf
            repeat (first | ((with_reducible first | apply ga | apply gb | apply gc | apply gd | apply ge | apply gf | apply gg | apply gh | apply gi | apply gj); conv => whnf) | (refine ⟨⟨rfl, rfl, nle rfl, nle rfl⟩, ?_⟩; conv => whnf) | fail)
            have hN : num s = (n, 0) := by simp only [num, hcut, hV, numR, hneg, Bool.false_and, if_neg (Int.not_lt.mpr hbig)]; rfl
            rw [hN]
            exact done_tup [i64 n, i64 0] [] rfl ⟨.same, .same, trivial⟩
        · conv => whnf
          repeat (first | ((with_reducible first | apply ga | apply gb | apply gc | apply gd | apply ge | apply gf | apply gg | apply gh | apply gi | apply gj); conv => whnf) | (refine ⟨⟨rfl, rfl, nle rfl, nle rfl⟩, ?_⟩; conv => whnf) | fail)
          refine ⟨fun hbig => ?_, fun hbig => ?_⟩ <;> replace hbig := nm hbig <;> (try simp only [Int.toNat_zero] at hbig) <;> (try simp only [Int.toNat_one] at hbig)
          · conv => whnf
            repeat (first | ((with_reducible first | apply ga | apply gb | apply gc | apply gd | apply ge | apply gf | apply gg | apply gh | apply gi | apply gj); conv => whnf) | (refine ⟨⟨rfl, rfl, nle rfl, nle rfl⟩, ?_⟩; conv => whnf) | fail)
            have hN : num s = (0, 3) := by simp only [num, hcut, hV, numR, hneg, Bool.false_and, if_pos hbig]; rfl
            rw [hN]
            exact done_tup [i64 0, i64 3] [] rfl ⟨.same, .same, trivial⟩
          · conv => whnf
            repeat (first | ((with_reducible first | apply ga | apply gb | apply gc | apply gd | apply ge | apply gf | apply gg | apply gh | apply gi | apply gj); conv => whnf) | (refine ⟨⟨rfl, rfl, nle rfl, nle rfl⟩, ?_⟩; conv => whnf) | fail)
            refine ⟨fun e => absurd (((decide_eq_false hlen)).symm.trans e) (by decide), fun _ => ?_⟩
            conv => whnf
            repeat (first | ((with_reducible first | apply ga | apply gb | apply gc | apply gd | apply ge | apply gf | apply gg | apply gh | apply gi | apply gj); conv => whnf) | (refine ⟨⟨rfl, rfl, nle rfl, nle rfl⟩, ?_⟩; conv => whnf) | fail)
            have hN : num s = (n, 0) := by simp only [num, hcut, hV, numR, hneg, Bool.false_and, if_neg (Int.not_lt.mpr hbig)]; rfl
            rw [hN]
            exact done_tup [i64 n, i64 0] [] rfl ⟨.same, .same, trivial⟩
end Go.Proofs.YtdoeiccibhabcaaDoor

namespace Go.Proofs.YtdoeiccibhabcaaDoor
open Go Go.AM
attribute [local irreducible] AWP CallK PureCall SubS HeapCall
structure Arg where
  k : Int
  nm : List UInt8
  v : Int
def Arg.av (a : Arg) : AV := .agg 3 (getL [u8 a.k, st a.nm, i64 a.v])
def az : Arg := ⟨0, [], 0⟩
def opT (x : Arg × Int × Int) : AV := tupV [x.1.av, i64 x.2.1, i64 x.2.2]
/-- An operand. -/
def opnd (s : List UInt8) : Arg × Int × Int :=
  if s == [] || !(letter (s.getD 0 0)) then (if (num s).2 ≠ 0 then (az, 0, (num s).2) else (⟨1, [], (num s).1⟩, 0, 0))
  else if 8 < (nameLen s : Int) then (az, 0, 5)
  else if (nameLen s : Int) = s.length then (⟨2, s.take (nameLen s), 0⟩, 0, 0)
  else if ((s.getD (nameLen s) 0).toNat : Int) = 43 ∨ ((s.getD (nameLen s) 0).toNat : Int) = 45 then
    if [45].isPrefixOf (s.drop (nameLen s + 1)) then (az, nameLen s + 1, 5)
    else if (num (s.drop (nameLen s + 1))).2 ≠ 0 then (az, nameLen s + 1, (num (s.drop (nameLen s + 1))).2)
    else (⟨2, s.take (nameLen s), if ((s.getD (nameLen s) 0).toNat : Int) = 45 then -(num (s.drop (nameLen s + 1))).1 else (num (s.drop (nameLen s + 1))).1⟩, 0, 0)
  else (az, nameLen s, 5)
theorem num_bounds (s : List UInt8) : -65535 ≤ (num s).1 ∧ (num s).1 ≤ 65535 := by
  have key : ∀ v : Option Int, (∀ n, v = some n → 0 ≤ n ∧ n ≤ 65536) → ∀ b, -65535 ≤ (numR b v).1 ∧ (numR b v).1 ≤ 65535 := by
    intro v hv b
    unfold numR
    split
    · simp
    · rename_i n
      have := hv n rfl
      split
      · simp
      · split
        · simp
        · split <;> simp only <;> omega
  refine key _ (fun n hn => ?_) _
  unfold numV at hn
  split at hn
  · exact valN_some (.inl rfl) hn
  · split at hn
    · exact valN_some (.inr rfl) hn
    · cases hn
theorem agg3 {H : Heap} {B : List Nat} {U : List (Nat × Nat)} {f g : Nat → AV} (h0 : VLe H B U (f 0) (g 0)) (h1 : VLe H B U (f 1) (g 1)) (h2 : VLe H B U (f 2) (g 2)) : VLe H B U (.agg 3 f) (.agg 3 g) :=
  .agg _ _ _ fun i hi => match i, hi with
    | 0, _ => h0
    | 1, _ => h1
    | 2, _ => h2
theorem empty_beq {s : List UInt8} : (s == []) = decide (¬ 0 < s.length) := by cases s <;> simp
theorem f19 (s : List UInt8) (hs : B62 s) : PureCall Tryd.prog 19 [st s] (opT (opnd s)) := by
  have hs' := hs
  unfold B62 at hs'
  have hk := tw_le (p := inner) s
  change nameLen s ≤ s.length at hk
  have hr : B62 (s.drop (nameLen s + 1)) := by unfold B62; simp; omega
  have hnb := num_bounds (s.drop (nameLen s + 1))
  refine PureCall.run tab_ok mixed (by kernel_rfl) Tryd.func19 rfl rfl rfl ?_
  conv => whnf
  repeat (first | ((with_reducible first | apply ga | apply gb | apply gc | apply gd | apply ge | apply gf | apply gg | apply gh | apply gi | apply gj); conv => whnf) | (refine ⟨⟨rfl, rfl, nle rfl, nle rfl⟩, ?_⟩; conv => whnf) | fail)
  refine ⟨fun h0 => ?_, fun h0 => ?_⟩ <;> replace h0 := nm h0 <;> (try simp only [Int.toNat_zero] at h0) <;> (try simp only [Int.toNat_one] at h0)
  · conv => whnf
    repeat (first | ((with_reducible first | apply ga | apply gb | apply gc | apply gd | apply ge | apply gf | apply gg | apply gh | apply gi | apply gj); conv => whnf) | (refine ⟨⟨rfl, rfl, nle rfl, nle rfl⟩, ?_⟩; conv => whnf) | fail)
    refine ⟨⟨by omega, by cases s with | nil => exact absurd rfl h0 | cons _ _ => simp⟩, ?_⟩
    conv => whnf
    repeat (first | ((with_reducible first | apply ga | apply gb | apply gc | apply gd | apply ge | apply gf | apply gg | apply gh | apply gi | apply gj); conv => whnf) | (refine ⟨⟨rfl, rfl, nle rfl, nle rfl⟩, ?_⟩; conv => whnf) | fail)
    refine CallK.flat [] (f37 (s.getD 0 0)) ⟨.same, trivial⟩ rfl ?_
    conv => whnf
    repeat (first | ((with_reducible first | apply ga | apply gb | apply gc | apply gd | apply ge | apply gf | apply gg | apply gh | apply gi | apply gj); conv => whnf) | (refine ⟨⟨rfl, rfl, nle rfl, nle rfl⟩, ?_⟩; conv => whnf) | fail)
    refine ⟨fun hl => ?_, fun hl => ?_⟩ <;> replace hl := nm hl <;> (try simp only [Int.toNat_zero] at hl) <;> (try simp only [Int.toNat_one] at hl)
    · have hA : (s == [] || !(letter (s.getD 0 0))) = true := by rw [hl]; simp
      conv => whnf
      repeat (first | ((with_reducible first | apply ga | apply gb | apply gc | apply gd | apply ge | apply gf | apply gg | apply gh | apply gi | apply gj); conv => whnf) | (refine ⟨⟨rfl, rfl, nle rfl, nle rfl⟩, ?_⟩; conv => whnf) | fail)
      refine CallK.flat [] (f14 s hs) ⟨.same, trivial⟩ rfl ?_
      conv => whnf
      repeat (first | ((with_reducible first | apply ga | apply gb | apply gc | apply gd | apply ge | apply gf | apply gg | apply gh | apply gi | apply gj); conv => whnf) | (refine ⟨⟨rfl, rfl, nle rfl, nle rfl⟩, ?_⟩; conv => whnf) | fail)
      refine ⟨fun he => ?_, fun he => ?_⟩ <;> replace he := nm he <;> (try simp only [Int.toNat_zero] at he) <;> (try simp only [Int.toNat_one] at he)
      · conv => whnf
        repeat (first | ((with_reducible first | apply ga | apply gb | apply gc | apply gd | apply ge | apply gf | apply gg | apply gh | apply gi | apply gj); conv => whnf) | (refine ⟨⟨rfl, rfl, nle rfl, nle rfl⟩, ?_⟩; conv => whnf) | fail)
        have hO : opnd s = (az, 0, (num s).2) := by rw [opnd, if_pos hA, if_pos he]
        rw [hO]
        exact done_tup [Arg.av az, i64 0, i64 ((num s).2)] [] rfl ⟨agg3 .same .same .same, .same, .same, trivial⟩
      · conv => whnf
        repeat (first | ((with_reducible first | apply ga | apply gb | apply gc | apply gd | apply ge | apply gf | apply gg | apply gh | apply gi | apply gj); conv => whnf) | (refine ⟨⟨rfl, rfl, nle rfl, nle rfl⟩, ?_⟩; conv => whnf) | fail)
        have hO : opnd s = (⟨1, [], (num s).1⟩, 0, 0) := by rw [opnd, if_pos hA, if_neg (fun h => h he)]
        rw [hO]
        exact done_tup [Arg.av ⟨1, [], (num s).1⟩, i64 0, i64 0] [] rfl ⟨agg3 .same .same .same, .same, .same, trivial⟩
    · have hA : ¬ (s == [] || !(letter (s.getD 0 0))) = true := by rw [hl]; simpa using h0
      conv => whnf
      repeat (first | ((with_reducible first | apply ga | apply gb | apply gc | apply gd | apply ge | apply gf | apply gg | apply gh | apply gi | apply gj); conv => whnf) | (refine ⟨⟨rfl, rfl, nle rfl, nle rfl⟩, ?_⟩; conv => whnf) | fail)
      refine CallK.flat [] (f38 s hs) ⟨.same, trivial⟩ rfl ?_
      conv => whnf
      repeat (first | ((with_reducible first | apply ga | apply gb | apply gc | apply gd | apply ge | apply gf | apply gg | apply gh | apply gi | apply gj); conv => whnf) | (refine ⟨⟨rfl, rfl, nle rfl, nle rfl⟩, ?_⟩; conv => whnf) | fail)
      refine ⟨fun h8 => ?_, fun h8 => ?_⟩ <;> replace h8 := nm h8 <;> (try simp only [Int.toNat_zero] at h8) <;> (try simp only [Int.toNat_one] at h8)
      · conv => whnf
        repeat (first | ((with_reducible first | apply ga | apply gb | apply gc | apply gd | apply ge | apply gf | apply gg | apply gh | apply gi | apply gj); conv => whnf) | (refine ⟨⟨rfl, rfl, nle rfl, nle rfl⟩, ?_⟩; conv => whnf) | fail)
        have hO : opnd s = (az, 0, 5) := by rw [opnd, if_neg hA, if_pos h8]
        rw [hO]
        exact done_tup [Arg.av az, i64 0, i64 5] [] rfl ⟨agg3 .same .same .same, .same, .same, trivial⟩
      · have h8' := Int.not_lt.mpr h8
        conv => whnf
        repeat (first | ((with_reducible first | apply ga | apply gb | apply gc | apply gd | apply ge | apply gf | apply gg | apply gh | apply gi | apply gj); conv => whnf) | (refine ⟨⟨rfl, rfl, nle rfl, nle rfl⟩, ?_⟩; conv => whnf) | fail)
        refine ⟨⟨by omega, by omega⟩, ?_⟩
        conv => whnf
        repeat (first | ((with_reducible first | apply ga | apply gb | apply gc | apply gd | apply ge | apply gf | apply gg | apply gh | apply gi | apply gj); conv => whnf) | (refine ⟨⟨rfl, rfl, nle rfl, nle rfl⟩, ?_⟩; conv => whnf) | fail)
        rw [show ((nameLen s : Int)).toNat = nameLen s from Int.toNat_natCast _]
        refine CallK.flat [] (f41 (s.take (nameLen s)) (by simp; omega)) ⟨.same, trivial⟩ rfl ?_
        conv => whnf
        repeat (first | ((with_reducible first | apply ga | apply gb | apply gc | apply gd | apply ge | apply gf | apply gg | apply gh | apply gi | apply gj); conv => whnf) | (refine ⟨⟨rfl, rfl, nle rfl, nle rfl⟩, ?_⟩; conv => whnf) | fail)
        refine ⟨fun he => ?_, fun he => ?_⟩ <;> replace he := nm he <;> (try simp only [Int.toNat_zero] at he) <;> (try simp only [Int.toNat_one] at he)
        · conv => whnf
          repeat (first | ((with_reducible first | apply ga | apply gb | apply gc | apply gd | apply ge | apply gf | apply gg | apply gh | apply gi | apply gj); conv => whnf) | (refine ⟨⟨rfl, rfl, nle rfl, nle rfl⟩, ?_⟩; conv => whnf) | fail)
          have hO : opnd s = (⟨2, s.take (nameLen s), 0⟩, 0, 0) := by rw [opnd, if_neg hA, if_neg h8', if_pos he]
          rw [hO]
          exact done_tup [Arg.av ⟨2, s.take (nameLen s), 0⟩, i64 0, i64 0] [] rfl ⟨agg3 .same .same .same, .same, .same, trivial⟩
        · have hlt : nameLen s < s.length := by omega
          conv => whnf
          repeat (first | ((with_reducible first | apply ga | apply gb | apply gc | apply gd | apply ge | apply gf | apply gg | apply gh | apply gi | apply gj); conv => whnf) | (refine ⟨⟨rfl, rfl, nle rfl, nle rfl⟩, ?_⟩; conv => whnf) | fail)
          refine ⟨⟨by omega, by omega⟩, ?_⟩
          conv => whnf
          repeat (first | ((with_reducible first | apply ga | apply gb | apply gc | apply gd | apply ge | apply gf | apply gg | apply gh | apply gi | apply gj); conv => whnf) | (refine ⟨⟨rfl, rfl, nle rfl, nle rfl⟩, ?_⟩; conv => whnf) | fail)
          rw [show ((nameLen s : Int)).toNat = nameLen s from Int.toNat_natCast _]
          refine ⟨fun h43 => ?_, fun h43 => ?_⟩ <;> replace h43 := nm h43 <;> (try simp only [Int.toNat_zero] at h43) <;> (try simp only [Int.toNat_one] at h43)
          · conv => whnf
            repeat (first | ((with_reducible first | apply ga | apply gb | apply gc | apply gd | apply ge | apply gf | apply gg | apply gh | apply gi | apply gj); conv => whnf) | (refine ⟨⟨rfl, rfl, nle rfl, nle rfl⟩, ?_⟩; conv => whnf) | fail)
            have hS : ((s.getD (nameLen s) 0).toNat : Int) = 43 ∨ ((s.getD (nameLen s) 0).toNat : Int) = 45 := .inl h43
            have hd : s.drop ((nameLen s : Int) + 1).toNat = s.drop (nameLen s + 1) := by congr 1
            refine ⟨⟨by unfold inI64; omega⟩, ?_⟩
            conv => whnf
            repeat (first | ((with_reducible first | apply ga | apply gb | apply gc | apply gd | apply ge | apply gf | apply gg | apply gh | apply gi | apply gj); conv => whnf) | (refine ⟨⟨rfl, rfl, nle rfl, nle rfl⟩, ?_⟩; conv => whnf) | fail)
            refine ⟨⟨by omega, by omega⟩, ?_⟩
            conv => whnf
            repeat (first | ((with_reducible first | apply ga | apply gb | apply gc | apply gd | apply ge | apply gf | apply gg | apply gh | apply gi | apply gj); conv => whnf) | (refine ⟨⟨rfl, rfl, nle rfl, nle rfl⟩, ?_⟩; conv => whnf) | fail)
            rw [hd]
            refine CallK.flat [] (f35 (s.drop (nameLen s + 1)) [45]) ⟨.same, .same, trivial⟩ rfl ?_
            conv => whnf
            repeat (first | ((with_reducible first | apply ga | apply gb | apply gc | apply gd | apply ge | apply gf | apply gg | apply gh | apply gi | apply gj); conv => whnf) | (refine ⟨⟨rfl, rfl, nle rfl, nle rfl⟩, ?_⟩; conv => whnf) | fail)
            refine ⟨fun hm => ?_, fun hm => ?_⟩ <;> replace hm := nm hm <;> (try simp only [Int.toNat_zero] at hm) <;> (try simp only [Int.toNat_one] at hm)
            · conv => whnf
              repeat (first | ((with_reducible first | apply ga | apply gb | apply gc | apply gd | apply ge | apply gf | apply gg | apply gh | apply gi | apply gj); conv => whnf) | (refine ⟨⟨rfl, rfl, nle rfl, nle rfl⟩, ?_⟩; conv => whnf) | fail)
              refine ⟨⟨by unfold inI64; omega⟩, ?_⟩
              conv => whnf
              repeat (first | ((with_reducible first | apply ga | apply gb | apply gc | apply gd | apply ge | apply gf | apply gg | apply gh | apply gi | apply gj); conv => whnf) | (refine ⟨⟨rfl, rfl, nle rfl, nle rfl⟩, ?_⟩; conv => whnf) | fail)
              have hO : opnd s = (az, ((nameLen s : Int) + 1), 5) := by rw [opnd, if_neg hA, if_neg h8', if_neg he, if_pos hS, if_pos hm]
              rw [hO]
              exact done_tup [Arg.av az, i64 (((nameLen s : Int) + 1)), i64 5] [] rfl ⟨agg3 .same .same .same, .same, .same, trivial⟩
            · have hm' : ¬ [45].isPrefixOf (s.drop (nameLen s + 1)) = true := by rw [hm]; simp
              conv => whnf
              repeat (first | ((with_reducible first | apply ga | apply gb | apply gc | apply gd | apply ge | apply gf | apply gg | apply gh | apply gi | apply gj); conv => whnf) | (refine ⟨⟨rfl, rfl, nle rfl, nle rfl⟩, ?_⟩; conv => whnf) | fail)
              refine ⟨⟨by unfold inI64; omega⟩, ?_⟩
              conv => whnf
              repeat (first | ((with_reducible first | apply ga | apply gb | apply gc | apply gd | apply ge | apply gf | apply gg | apply gh | apply gi | apply gj); conv => whnf) | (refine ⟨⟨rfl, rfl, nle rfl, nle rfl⟩, ?_⟩; conv => whnf) | fail)
              refine ⟨⟨by omega, by omega⟩, ?_⟩
              conv => whnf
              repeat (first | ((with_reducible first | apply ga | apply gb | apply gc | apply gd | apply ge | apply gf | apply gg | apply gh | apply gi | apply gj); conv => whnf) | (refine ⟨⟨rfl, rfl, nle rfl, nle rfl⟩, ?_⟩; conv => whnf) | fail)
              rw [hd]
              refine CallK.flat [] (f14 (s.drop (nameLen s + 1)) hr) ⟨.same, trivial⟩ rfl ?_
              conv => whnf
              repeat (first | ((with_reducible first | apply ga | apply gb | apply gc | apply gd | apply ge | apply gf | apply gg | apply gh | apply gi | apply gj); conv => whnf) | (refine ⟨⟨rfl, rfl, nle rfl, nle rfl⟩, ?_⟩; conv => whnf) | fail)
              refine ⟨fun hn => ?_, fun hn => ?_⟩ <;> replace hn := nm hn <;> (try simp only [Int.toNat_zero] at hn) <;> (try simp only [Int.toNat_one] at hn)
              · conv => whnf
                repeat (first | ((with_reducible first | apply ga | apply gb | apply gc | apply gd | apply ge | apply gf | apply gg | apply gh | apply gi | apply gj); conv => whnf) | (refine ⟨⟨rfl, rfl, nle rfl, nle rfl⟩, ?_⟩; conv => whnf) | fail)
                refine ⟨⟨by unfold inI64; omega⟩, ?_⟩
                conv => whnf
                repeat (first | ((with_reducible first | apply ga | apply gb | apply gc | apply gd | apply ge | apply gf | apply gg | apply gh | apply gi | apply gj); conv => whnf) | (refine ⟨⟨rfl, rfl, nle rfl, nle rfl⟩, ?_⟩; conv => whnf) | fail)
                have hO : opnd s = (az, ((nameLen s : Int) + 1), (num (s.drop (nameLen s + 1))).2) := by rw [opnd, if_neg hA, if_neg h8', if_neg he, if_pos hS, if_neg hm', if_pos hn]
                rw [hO]
                exact done_tup [Arg.av az, i64 (((nameLen s : Int) + 1)), i64 ((num (s.drop (nameLen s + 1))).2)] [] rfl ⟨agg3 .same .same .same, .same, .same, trivial⟩
              · conv => whnf
                repeat (first | ((with_reducible first | apply ga | apply gb | apply gc | apply gd | apply ge | apply gf | apply gg | apply gh | apply gi | apply gj); conv => whnf) | (refine ⟨⟨rfl, rfl, nle rfl, nle rfl⟩, ?_⟩; conv => whnf) | fail)
                refine ⟨⟨by unfold inI64; omega⟩, ?_⟩
                conv => whnf
                repeat (first | ((with_reducible first | apply ga | apply gb | apply gc | apply gd | apply ge | apply gf | apply gg | apply gh | apply gi | apply gj); conv => whnf) | (refine ⟨⟨rfl, rfl, nle rfl, nle rfl⟩, ?_⟩; conv => whnf) | fail)
                have hO : opnd s = (⟨2, s.take (nameLen s), (num (s.drop (nameLen s + 1))).1⟩, 0, 0) := by rw [opnd, if_neg hA, if_neg h8', if_neg he, if_pos hS, if_neg hm', if_neg (fun h => h hn), if_neg (by omega)]
                rw [hO]
                exact done_tup [Arg.av ⟨2, s.take (nameLen s), (num (s.drop (nameLen s + 1))).1⟩, i64 0, i64 0] [] rfl ⟨agg3 .same .same (.int (by dsimp only; omega)), .same, .same, trivial⟩
          · conv => whnf
            repeat (first | ((with_reducible first | apply ga | apply gb | apply gc | apply gd | apply ge | apply gf | apply gg | apply gh | apply gi | apply gj); conv => whnf) | (refine ⟨⟨rfl, rfl, nle rfl, nle rfl⟩, ?_⟩; conv => whnf) | fail)
            refine ⟨fun h45 => ?_, fun h45 => ?_⟩ <;> replace h45 := nm h45 <;> (try simp only [Int.toNat_zero] at h45) <;> (try simp only [Int.toNat_one] at h45)
            · conv => whnf
              repeat (first | ((with_reducible first | apply ga | apply gb | apply gc | apply gd | apply ge | apply gf | apply gg | apply gh | apply gi | apply gj); conv => whnf) | (refine ⟨⟨rfl, rfl, nle rfl, nle rfl⟩, ?_⟩; conv => whnf) | fail)
              have hS : ((s.getD (nameLen s) 0).toNat : Int) = 43 ∨ ((s.getD (nameLen s) 0).toNat : Int) = 45 := .inr h45
              have hd : s.drop ((nameLen s : Int) + 1).toNat = s.drop (nameLen s + 1) := by congr 1
              refine ⟨⟨by unfold inI64; omega⟩, ?_⟩
              conv => whnf
              repeat (first | ((with_reducible first | apply ga | apply gb | apply gc | apply gd | apply ge | apply gf | apply gg | apply gh | apply gi | apply gj); conv => whnf) | (refine ⟨⟨rfl, rfl, nle rfl, nle rfl⟩, ?_⟩; conv => whnf) | fail)
              refine ⟨⟨by omega, by omega⟩, ?_⟩
              conv => whnf
              repeat (first | ((with_reducible first | apply ga | apply gb | apply gc | apply gd | apply ge | apply gf | apply gg | apply gh | apply gi | apply gj); conv => whnf) | (refine ⟨⟨rfl, rfl, nle rfl, nle rfl⟩, ?_⟩; conv => whnf) | fail)
              rw [hd]
              refine CallK.flat [] (f35 (s.drop (nameLen s + 1)) [45]) ⟨.same, .same, trivial⟩ rfl ?_
              conv => whnf
              repeat (first | ((with_reducible first | apply ga | apply gb | apply gc | apply gd | apply ge | apply gf | apply gg | apply gh | apply gi | apply gj); conv => whnf) | (refine ⟨⟨rfl, rfl, nle rfl, nle rfl⟩, ?_⟩; conv => whnf) | fail)
              refine ⟨fun hm => ?_, fun hm => ?_⟩ <;> replace hm := nm hm <;> (try simp only [Int.toNat_zero] at hm) <;> (try simp only [Int.toNat_one] at hm)
              · conv => whnf
                repeat (first | ((with_reducible first | apply ga | apply gb | apply gc | apply gd | apply ge | apply gf | apply gg | apply gh | apply gi | apply gj); conv => whnf) | (refine ⟨⟨rfl, rfl, nle rfl, nle rfl⟩, ?_⟩; conv => whnf) | fail)
                refine ⟨⟨by unfold inI64; omega⟩, ?_⟩
                conv => whnf
                repeat (first | ((with_reducible first | apply ga | apply gb | apply gc | apply gd | apply ge | apply gf | apply gg | apply gh | apply gi | apply gj); conv => whnf) | (refine ⟨⟨rfl, rfl, nle rfl, nle rfl⟩, ?_⟩; conv => whnf) | fail)
                have hO : opnd s = (az, ((nameLen s : Int) + 1), 5) := by rw [opnd, if_neg hA, if_neg h8', if_neg he, if_pos hS, if_pos hm]
                rw [hO]
                exact done_tup [Arg.av az, i64 (((nameLen s : Int) + 1)), i64 5] [] rfl ⟨agg3 .same .same .same, .same, .same, trivial⟩
              · have hm' : ¬ [45].isPrefixOf (s.drop (nameLen s + 1)) = true := by rw [hm]; simp
                conv => whnf
                repeat (first | ((with_reducible first | apply ga | apply gb | apply gc | apply gd | apply ge | apply gf | apply gg | apply gh | apply gi | apply gj); conv => whnf) | (refine ⟨⟨rfl, rfl, nle rfl, nle rfl⟩, ?_⟩; conv => whnf) | fail)
                refine ⟨⟨by unfold inI64; omega⟩, ?_⟩
                conv => whnf
                repeat (first | ((with_reducible first | apply ga | apply gb | apply gc | apply gd | apply ge | apply gf | apply gg | apply gh | apply gi | apply gj); conv => whnf) | (refine ⟨⟨rfl, rfl, nle rfl, nle rfl⟩, ?_⟩; conv => whnf) | fail)
                refine ⟨⟨by omega, by omega⟩, ?_⟩
                conv => whnf
                repeat (first | ((with_reducible first | apply ga | apply gb | apply gc | apply gd | apply ge | apply gf | apply gg | apply gh | apply gi | apply gj); conv => whnf) | (refine ⟨⟨rfl, rfl, nle rfl, nle rfl⟩, ?_⟩; conv => whnf) | fail)
                rw [hd]
                refine CallK.flat [] (f14 (s.drop (nameLen s + 1)) hr) ⟨.same, trivial⟩ rfl ?_
                conv => whnf
                repeat (first | ((with_reducible first | apply ga | apply gb | apply gc | apply gd | apply ge | apply gf | apply gg | apply gh | apply gi | apply gj); conv => whnf) | (refine ⟨⟨rfl, rfl, nle rfl, nle rfl⟩, ?_⟩; conv => whnf) | fail)
                refine ⟨fun hn => ?_, fun hn => ?_⟩ <;> replace hn := nm hn <;> (try simp only [Int.toNat_zero] at hn) <;> (try simp only [Int.toNat_one] at hn)
                · conv => whnf
                  repeat (first | ((with_reducible first | apply ga | apply gb | apply gc | apply gd | apply ge | apply gf | apply gg | apply gh | apply gi | apply gj); conv => whnf) | (refine ⟨⟨rfl, rfl, nle rfl, nle rfl⟩, ?_⟩; conv => whnf) | fail)
                  refine ⟨⟨by unfold inI64; omega⟩, ?_⟩
                  conv => whnf
                  repeat (first | ((with_reducible first | apply ga | apply gb | apply gc | apply gd | apply ge | apply gf | apply gg | apply gh | apply gi | apply gj); conv => whnf) | (refine ⟨⟨rfl, rfl, nle rfl, nle rfl⟩, ?_⟩; conv => whnf) | fail)
                  have hO : opnd s = (az, ((nameLen s : Int) + 1), (num (s.drop (nameLen s + 1))).2) := by rw [opnd, if_neg hA, if_neg h8', if_neg he, if_pos hS, if_neg hm', if_pos hn]
                  rw [hO]
                  exact done_tup [Arg.av az, i64 (((nameLen s : Int) + 1)), i64 ((num (s.drop (nameLen s + 1))).2)] [] rfl ⟨agg3 .same .same .same, .same, .same, trivial⟩
                · conv => whnf
                  repeat (first | ((with_reducible first | apply ga | apply gb | apply gc | apply gd | apply ge | apply gf | apply gg | apply gh | apply gi | apply gj); conv => whnf) | (refine ⟨⟨rfl, rfl, nle rfl, nle rfl⟩, ?_⟩; conv => whnf) | fail)
                  refine ⟨⟨by unfold inI64; omega⟩, ?_⟩
                  conv => whnf
                  repeat (first | ((with_reducible first | apply ga | apply gb | apply gc | apply gd | apply ge | apply gf | apply gg | apply gh | apply gi | apply gj); conv => whnf) | (refine ⟨⟨rfl, rfl, nle rfl, nle rfl⟩, ?_⟩; conv => whnf) | fail)
                  have hO : opnd s = (⟨2, s.take (nameLen s), -(num (s.drop (nameLen s + 1))).1⟩, 0, 0) := by rw [opnd, if_neg hA, if_neg h8', if_neg he, if_pos hS, if_neg hm', if_neg (fun h => h hn), if_pos h45]
                  rw [hO]
                  exact done_tup [Arg.av ⟨2, s.take (nameLen s), -(num (s.drop (nameLen s + 1))).1⟩, i64 0, i64 0] [] rfl ⟨agg3 .same .same (.int (by dsimp only; omega)), .same, .same, trivial⟩
            · conv => whnf
              repeat (first | ((with_reducible first | apply ga | apply gb | apply gc | apply gd | apply ge | apply gf | apply gg | apply gh | apply gi | apply gj); conv => whnf) | (refine ⟨⟨rfl, rfl, nle rfl, nle rfl⟩, ?_⟩; conv => whnf) | fail)
              have hO : opnd s = (az, (nameLen s : Int), 5) := by rw [opnd, if_neg hA, if_neg h8', if_neg he, if_neg (by omega)]
              rw [hO]
              exact done_tup [Arg.av az, i64 ((nameLen s : Int)), i64 5] [] rfl ⟨agg3 .same .same .same, .same, .same, trivial⟩
  · have hA : (s == [] || !(letter (s.getD 0 0))) = true := by rw [h0]; rfl
    conv => whnf
    repeat (first | ((with_reducible first | apply ga | apply gb | apply gc | apply gd | apply ge | apply gf | apply gg | apply gh | apply gi | apply gj); conv => whnf) | (refine ⟨⟨rfl, rfl, nle rfl, nle rfl⟩, ?_⟩; conv => whnf) | fail)
    refine CallK.flat [] (f14 s hs) ⟨.same, trivial⟩ rfl ?_
    conv => whnf
    repeat (first | ((with_reducible first | apply ga | apply gb | apply gc | apply gd | apply ge | apply gf | apply gg | apply gh | apply gi | apply gj); conv => whnf) | (refine ⟨⟨rfl, rfl, nle rfl, nle rfl⟩, ?_⟩; conv => whnf) | fail)
    refine ⟨fun he => ?_, fun he => ?_⟩ <;> replace he := nm he <;> (try simp only [Int.toNat_zero] at he) <;> (try simp only [Int.toNat_one] at he)
    · conv => whnf
      repeat (first | ((with_reducible first | apply ga | apply gb | apply gc | apply gd | apply ge | apply gf | apply gg | apply gh | apply gi | apply gj); conv => whnf) | (refine ⟨⟨rfl, rfl, nle rfl, nle rfl⟩, ?_⟩; conv => whnf) | fail)
      have hO : opnd s = (az, 0, (num s).2) := by rw [opnd, if_pos hA, if_pos he]
      rw [hO]
      exact done_tup [Arg.av az, i64 0, i64 ((num s).2)] [] rfl ⟨agg3 .same .same .same, .same, .same, trivial⟩
    · conv => whnf
      repeat (first | ((with_reducible first | apply ga | apply gb | apply gc | apply gd | apply ge | apply gf | apply gg | apply gh | apply gi | apply gj); conv => whnf) | (refine ⟨⟨rfl, rfl, nle rfl, nle rfl⟩, ?_⟩; conv => whnf) | fail)
      have hO : opnd s = (⟨1, [], (num s).1⟩, 0, 0) := by rw [opnd, if_pos hA, if_neg (fun h => h he)]
      rw [hO]
      exact done_tup [Arg.av ⟨1, [], (num s).1⟩, i64 0, i64 0] [] rfl ⟨agg3 .same .same .same, .same, .same, trivial⟩
end Go.Proofs.YtdoeiccibhabcaaDoor

namespace Go.Proofs.YtdoeiccibhabcaaDoor
open Go Go.AM
attribute [local irreducible] AWP CallK PureCall SubS HeapCall
theorem ole3 {H : Heap} {B : List Nat} {U : List (Nat × Nat)} {o o' : AO} (hE : o'.E = o.E) (hg : o'.gen = o.gen) (h3 : o.sz = 3) (hs : o'.sz = 3) (hn : o.n = 1) (hn' : o'.n = 1) (h0 : VLe H B U (o.f 0 0) (o'.f 0 0)) (h1 : VLe H B U (o.f 0 1) (o'.f 0 1)) (h2 : VLe H B U (o.f 0 2) (o'.f 0 2)) : OLe H B U o o' := by
  refine ⟨hE, hg, by omega, by omega, fun i j hi hj => ?_⟩
  obtain rfl : i = 0 := by omega
  rcases (by omega : j = 0 ∨ j = 1 ∨ j = 2) with rfl | rfl | rfl
  · exact h0
  · exact h1
  · exact h2
def argO (a : Arg) : AO := ⟨28, 0, 3, 1, fun _ j => getL [u8 a.k, st a.nm, i64 a.v] j⟩
set_option maxHeartbeats 4000000 in
theorem f20 (s : List UInt8) (hs : B62 s) : PureCall Tryd.prog 20 [st s] (opT (opnd s)) := by
  have hs' := hs
  unfold B62 at hs'
  have hk := tw_le (p := inner) s
  change nameLen s ≤ s.length at hk
  have hr : B62 (s.drop (nameLen s + 1)) := by unfold B62; simp; omega
  have hnb := num_bounds (s.drop (nameLen s + 1))
  refine PureCall.run tab_ok mixed (by kernel_rfl) Tryd.func20 rfl rfl rfl ?_
  conv => whnf
  repeat (first | ((with_reducible first | apply ga | apply gb | apply gc | apply gd | apply ge | apply gf | apply gg | apply gh | apply gi | apply gj); conv => whnf) | (refine ⟨⟨rfl, rfl, nle rfl, nle rfl⟩, ?_⟩; conv => whnf) | fail)
  refine ⟨fun h0 => ?_, fun h0 => ?_⟩ <;> replace h0 := nm h0 <;> (try simp only [Int.toNat_zero] at h0) <;> (try simp only [Int.toNat_one] at h0)
  · conv => whnf
    repeat (first | ((with_reducible first | apply ga | apply gb | apply gc | apply gd | apply ge | apply gf | apply gg | apply gh | apply gi | apply gj); conv => whnf) | (refine ⟨⟨rfl, rfl, nle rfl, nle rfl⟩, ?_⟩; conv => whnf) | fail)
    refine ⟨⟨by omega, by cases s with | nil => exact absurd rfl h0 | cons _ _ => simp⟩, ?_⟩
    conv => whnf
    repeat (first | ((with_reducible first | apply ga | apply gb | apply gc | apply gd | apply ge | apply gf | apply gg | apply gh | apply gi | apply gj); conv => whnf) | (refine ⟨⟨rfl, rfl, nle rfl, nle rfl⟩, ?_⟩; conv => whnf) | fail)
    refine CallK.flat [] (f39 (s.getD 0 0)) ⟨.same, trivial⟩ rfl ?_
    conv => whnf
    repeat (first | ((with_reducible first | apply ga | apply gb | apply gc | apply gd | apply ge | apply gf | apply gg | apply gh | apply gi | apply gj); conv => whnf) | (refine ⟨⟨rfl, rfl, nle rfl, nle rfl⟩, ?_⟩; conv => whnf) | fail)
    refine ⟨fun hl => ?_, fun hl => ?_⟩ <;> replace hl := nm hl <;> (try simp only [Int.toNat_zero] at hl) <;> (try simp only [Int.toNat_one] at hl)
    · have hA : (s == [] || !(letter (s.getD 0 0))) = true := by rw [hl]; simp
      conv => whnf
      repeat (first | ((with_reducible first | apply ga | apply gb | apply gc | apply gd | apply ge | apply gf | apply gg | apply gh | apply gi | apply gj); conv => whnf) | (refine ⟨⟨rfl, rfl, nle rfl, nle rfl⟩, ?_⟩; conv => whnf) | fail)
      refine CallK.flat [] (f15 s hs) ⟨.same, trivial⟩ rfl ?_
      conv => whnf
      repeat (first | ((with_reducible first | apply ga | apply gb | apply gc | apply gd | apply ge | apply gf | apply gg | apply gh | apply gi | apply gj); conv => whnf) | (refine ⟨⟨rfl, rfl, nle rfl, nle rfl⟩, ?_⟩; conv => whnf) | fail)
      refine ⟨fun he => ?_, fun he => ?_⟩ <;> replace he := nm he <;> (try simp only [Int.toNat_zero] at he) <;> (try simp only [Int.toNat_one] at he)
      · conv => whnf
        repeat (first | ((with_reducible first | apply ga | apply gb | apply gc | apply gd | apply ge | apply gf | apply gg | apply gh | apply gi | apply gj); conv => whnf) | (refine ⟨⟨rfl, rfl, nle rfl, nle rfl⟩, ?_⟩; conv => whnf) | fail)
        have hO : opnd s = (az, 0, (num s).2) := by rw [opnd, if_pos hA, if_pos he]
        rw [hO]
        exact done_tup [Arg.av az, i64 0, i64 ((num s).2)] [] rfl ⟨agg3 .same .same .same, .same, .same, trivial⟩
      · conv => whnf
        repeat (first | ((with_reducible first | apply ga | apply gb | apply gc | apply gd | apply ge | apply gf | apply gg | apply gh | apply gi | apply gj); conv => whnf) | (refine ⟨⟨rfl, rfl, nle rfl, nle rfl⟩, ?_⟩; conv => whnf) | fail)
        have hO : opnd s = (⟨1, [], (num s).1⟩, 0, 0) := by rw [opnd, if_pos hA, if_neg (fun h => h he)]
        rw [hO]
        exact done_tup [Arg.av ⟨1, [], (num s).1⟩, i64 0, i64 0] [] rfl ⟨agg3 .same .same .same, .same, .same, trivial⟩
    · have hA : ¬ (s == [] || !(letter (s.getD 0 0))) = true := by rw [hl]; simpa using h0
      conv => whnf
      repeat (first | ((with_reducible first | apply ga | apply gb | apply gc | apply gd | apply ge | apply gf | apply gg | apply gh | apply gi | apply gj); conv => whnf) | (refine ⟨⟨rfl, rfl, nle rfl, nle rfl⟩, ?_⟩; conv => whnf) | fail)
      refine ex_loop tab_ok mixed (fun i => i ≤ nameLen s) (fun i : Nat => mkSt 102 [(0, st s), (2, .ptr 2 0 3 0 0), (3, i64 0), (4, i64 0), (7, i64 i)] [(2, argO az)]) (fun i => s.length - i) 0 (Nat.zero_le _) (SubS.mk [] rfl ⟨⟨_, rfl, .same⟩, ⟨_, rfl, .ptr _ _ _ _ _ _ _ _ _ rfl rfl rfl rfl⟩, ⟨_, rfl, .same⟩, ⟨_, rfl, .same⟩, ⟨_, rfl, .same⟩, trivial⟩ ⟨.inl ⟨_, _, rfl, rfl, rfl, ole3 rfl rfl rfl rfl rfl rfl .same .same .same⟩, trivial⟩) fun i hi => ?_
      unfold nameLen at hi
      conv => whnf
      repeat (first | ((with_reducible first | apply ga | apply gb | apply gc | apply gd | apply ge | apply gf | apply gg | apply gh | apply gi | apply gj); conv => whnf) | (refine ⟨⟨rfl, rfl, nle rfl, nle rfl⟩, ?_⟩; conv => whnf) | fail)
      refine ⟨fun hc => ?_, fun hc => ?_⟩ <;> replace hc := nm hc <;> (try simp only [Int.toNat_zero] at hc) <;> (try simp only [Int.toNat_one] at hc)
      · conv => whnf
        repeat (first | ((with_reducible first | apply ga | apply gb | apply gc | apply gd | apply ge | apply gf | apply gg | apply gh | apply gi | apply gj); conv => whnf) | (refine ⟨⟨rfl, rfl, nle rfl, nle rfl⟩, ?_⟩; conv => whnf) | fail)
        refine ⟨⟨by omega, by omega⟩, ?_⟩
        conv => whnf
        repeat (first | ((with_reducible first | apply ga | apply gb | apply gc | apply gd | apply ge | apply gf | apply gg | apply gh | apply gi | apply gj); conv => whnf) | (refine ⟨⟨rfl, rfl, nle rfl, nle rfl⟩, ?_⟩; conv => whnf) | fail)
        rw [show ((i : Int)).toNat = i from Int.toNat_natCast _]
        refine CallK.flat [] (f40 (s.getD i 0)) ⟨.same, trivial⟩ rfl ?_
        conv => whnf
        repeat (first | ((with_reducible first | apply ga | apply gb | apply gc | apply gd | apply ge | apply gf | apply gg | apply gh | apply gi | apply gj); conv => whnf) | (refine ⟨⟨rfl, rfl, nle rfl, nle rfl⟩, ?_⟩; conv => whnf) | fail)
        refine ⟨fun hb => ?_, fun hb => ?_⟩ <;> replace hb := nm hb <;> (try simp only [Int.toNat_zero] at hb) <;> (try simp only [Int.toNat_one] at hb)
        · conv => whnf
          repeat (first | ((with_reducible first | apply ga | apply gb | apply gc | apply gd | apply ge | apply gf | apply gg | apply gh | apply gi | apply gj); conv => whnf) | (refine ⟨⟨rfl, rfl, nle rfl, nle rfl⟩, ?_⟩; conv => whnf) | fail)
          have hlt : i < (s.takeWhile inner).length := by
            rcases Nat.lt_or_ge i (s.takeWhile inner).length with h | h
            · exact h
            · have he : i = (s.takeWhile inner).length := by omega
              have := tw_end (p := inner) (s := s) (by omega)
              rw [← he, hb] at this; cases this
          refine ⟨⟨by unfold inI64; omega⟩, ?_⟩
          conv => whnf
          repeat (first | ((with_reducible first | apply ga | apply gb | apply gc | apply gd | apply ge | apply gf | apply gg | apply gh | apply gi | apply gj); conv => whnf) | (refine ⟨⟨rfl, rfl, nle rfl, nle rfl⟩, ?_⟩; conv => whnf) | fail)
          exact ⟨i + 1, hlt, SubS.mk [] rfl ⟨⟨_, rfl, .same⟩, ⟨_, rfl, .ptr _ _ _ _ _ _ _ _ _ rfl rfl rfl rfl⟩, ⟨_, rfl, .same⟩, ⟨_, rfl, .same⟩, ⟨_, rfl, .same⟩, trivial⟩ ⟨.inl ⟨_, _, rfl, rfl, rfl, ole3 rfl rfl rfl rfl rfl rfl .same .same .same⟩, trivial⟩, by omega⟩
        · have : ¬ i < (s.takeWhile inner).length := fun h => by rw [(tw_lt h).2] at hb; cases hb
          obtain rfl : i = nameLen s := by unfold nameLen; omega
          clear hi hb this hc
          conv => whnf
          repeat (first | ((with_reducible first | apply ga | apply gb | apply gc | apply gd | apply ge | apply gf | apply gg | apply gh | apply gi | apply gj); conv => whnf) | (refine ⟨⟨rfl, rfl, nle rfl, nle rfl⟩, ?_⟩; conv => whnf) | fail)
          refine ⟨fun h8 => ?_, fun h8 => ?_⟩ <;> replace h8 := nm h8 <;> (try simp only [Int.toNat_zero] at h8) <;> (try simp only [Int.toNat_one] at h8)
          · conv => whnf
            repeat (first | ((with_reducible first | apply ga | apply gb | apply gc | apply gd | apply ge | apply gf | apply gg | apply gh | apply gi | apply gj); conv => whnf) | (refine ⟨⟨rfl, rfl, nle rfl, nle rfl⟩, ?_⟩; conv => whnf) | fail)
            have hO : opnd s = (az, 0, 5) := by rw [opnd, if_neg hA, if_pos h8]
            rw [hO]
            exact done_tup [Arg.av az, i64 0, i64 5] [] rfl ⟨agg3 .same .same .same, .same, .same, trivial⟩
          · have h8' := Int.not_lt.mpr h8
            conv => whnf
            repeat (first | ((with_reducible first | apply ga | apply gb | apply gc | apply gd | apply ge | apply gf | apply gg | apply gh | apply gi | apply gj); conv => whnf) | (refine ⟨⟨rfl, rfl, nle rfl, nle rfl⟩, ?_⟩; conv => whnf) | fail)
            refine ⟨⟨by omega, by omega⟩, ?_⟩
            conv => whnf
            repeat (first | ((with_reducible first | apply ga | apply gb | apply gc | apply gd | apply ge | apply gf | apply gg | apply gh | apply gi | apply gj); conv => whnf) | (refine ⟨⟨rfl, rfl, nle rfl, nle rfl⟩, ?_⟩; conv => whnf) | fail)
            rw [show ((nameLen s : Int)).toNat = nameLen s from Int.toNat_natCast _]
            refine ⟨fun he => ?_, fun he => ?_⟩ <;> replace he := nm he <;> (try simp only [Int.toNat_zero] at he) <;> (try simp only [Int.toNat_one] at he)
            · conv => whnf
              repeat (first | ((with_reducible first | apply ga | apply gb | apply gc | apply gd | apply ge | apply gf | apply gg | apply gh | apply gi | apply gj); conv => whnf) | (refine ⟨⟨rfl, rfl, nle rfl, nle rfl⟩, ?_⟩; conv => whnf) | fail)
              have hO : opnd s = (⟨2, s.take (nameLen s), 0⟩, 0, 0) := by rw [opnd, if_neg hA, if_neg h8', if_pos he]
              rw [hO]
              exact done_tup [Arg.av ⟨2, s.take (nameLen s), 0⟩, i64 0, i64 0] [] rfl ⟨agg3 .same .same .same, .same, .same, trivial⟩
            · have hlt : nameLen s < s.length := by omega
              have hd : s.drop ((nameLen s : Int) + 1).toNat = s.drop (nameLen s + 1) := by congr 1
              conv => whnf
              repeat (first | ((with_reducible first | apply ga | apply gb | apply gc | apply gd | apply ge | apply gf | apply gg | apply gh | apply gi | apply gj); conv => whnf) | (refine ⟨⟨rfl, rfl, nle rfl, nle rfl⟩, ?_⟩; conv => whnf) | fail)
              refine ⟨⟨by omega, by omega⟩, ?_⟩
              conv => whnf
              repeat (first | ((with_reducible first | apply ga | apply gb | apply gc | apply gd | apply ge | apply gf | apply gg | apply gh | apply gi | apply gj); conv => whnf) | (refine ⟨⟨rfl, rfl, nle rfl, nle rfl⟩, ?_⟩; conv => whnf) | fail)
              rw [show ((nameLen s : Int)).toNat = nameLen s from Int.toNat_natCast _]
              refine ⟨fun h43 => ?_, fun h43 => ?_⟩ <;> replace h43 := nm h43 <;> (try simp only [Int.toNat_zero] at h43) <;> (try simp only [Int.toNat_one] at h43)
              · conv => whnf
                repeat (first | ((with_reducible first | apply ga | apply gb | apply gc | apply gd | apply ge | apply gf | apply gg | apply gh | apply gi | apply gj); conv => whnf) | (refine ⟨⟨rfl, rfl, nle rfl, nle rfl⟩, ?_⟩; conv => whnf) | fail)
                refine ⟨⟨by omega, by omega⟩, ?_⟩
                conv => whnf
                repeat (first | ((with_reducible first | apply ga | apply gb | apply gc | apply gd | apply ge | apply gf | apply gg | apply gh | apply gi | apply gj); conv => whnf) | (refine ⟨⟨rfl, rfl, nle rfl, nle rfl⟩, ?_⟩; conv => whnf) | fail)
                rw [show ((nameLen s : Int)).toNat = nameLen s from Int.toNat_natCast _]
                refine ⟨fun h45 => ?_, fun h45 => ?_⟩ <;> replace h45 := nm h45 <;> (try simp only [Int.toNat_zero] at h45) <;> (try simp only [Int.toNat_one] at h45)
                · conv => whnf
                  repeat (first | ((with_reducible first | apply ga | apply gb | apply gc | apply gd | apply ge | apply gf | apply gg | apply gh | apply gi | apply gj); conv => whnf) | (refine ⟨⟨rfl, rfl, nle rfl, nle rfl⟩, ?_⟩; conv => whnf) | fail)
                  have hO : opnd s = (az, (nameLen s : Int), 5) := by rw [opnd, if_neg hA, if_neg h8', if_neg he, if_neg (fun h => h.elim h43 h45)]
                  rw [hO]
                  exact done_tup [Arg.av az, i64 ((nameLen s : Int)), i64 5] [] rfl ⟨agg3 .same .same .same, .same, .same, trivial⟩
                · have hS : ((s.getD (nameLen s) 0).toNat : Int) = 43 ∨ ((s.getD (nameLen s) 0).toNat : Int) = 45 := .inr h45
                  conv => whnf
                  repeat (first | ((with_reducible first | apply ga | apply gb | apply gc | apply gd | apply ge | apply gf | apply gg | apply gh | apply gi | apply gj); conv => whnf) | (refine ⟨⟨rfl, rfl, nle rfl, nle rfl⟩, ?_⟩; conv => whnf) | fail)
                  refine ⟨⟨by unfold inI64; omega⟩, ?_⟩
                  conv => whnf
                  repeat (first | ((with_reducible first | apply ga | apply gb | apply gc | apply gd | apply ge | apply gf | apply gg | apply gh | apply gi | apply gj); conv => whnf) | (refine ⟨⟨rfl, rfl, nle rfl, nle rfl⟩, ?_⟩; conv => whnf) | fail)
                  refine ⟨⟨by omega, by omega⟩, ?_⟩
                  conv => whnf
                  repeat (first | ((with_reducible first | apply ga | apply gb | apply gc | apply gd | apply ge | apply gf | apply gg | apply gh | apply gi | apply gj); conv => whnf) | (refine ⟨⟨rfl, rfl, nle rfl, nle rfl⟩, ?_⟩; conv => whnf) | fail)
                  rw [hd]
                  refine ⟨fun hne => ?_, fun hne => ?_⟩ <;> replace hne := nm hne <;> (try simp only [Int.toNat_zero] at hne) <;> (try simp only [Int.toNat_one] at hne)
                  · conv => whnf
                    repeat (first | ((with_reducible first | apply ga | apply gb | apply gc | apply gd | apply ge | apply gf | apply gg | apply gh | apply gi | apply gj); conv => whnf) | (refine ⟨⟨rfl, rfl, nle rfl, nle rfl⟩, ?_⟩; conv => whnf) | fail)
                    refine ⟨⟨by omega, by cases hq : s.drop (nameLen s + 1) with | nil => exact absurd hq hne | cons _ _ => simp⟩, ?_⟩
                    conv => whnf
                    repeat (first | ((with_reducible first | apply ga | apply gb | apply gc | apply gd | apply ge | apply gf | apply gg | apply gh | apply gi | apply gj); conv => whnf) | (refine ⟨⟨rfl, rfl, nle rfl, nle rfl⟩, ?_⟩; conv => whnf) | fail)
                    refine ⟨fun hm0 => ?_, fun hm0 => ?_⟩ <;> replace hm0 := nm hm0 <;> (try simp only [Int.toNat_zero] at hm0) <;> (try simp only [Int.toNat_one] at hm0)
                    · have hm : [45].isPrefixOf (s.drop (nameLen s + 1)) = true := by
                        rw [pre1, decide_eq_true (by cases hq : s.drop (nameLen s + 1) with | nil => exact absurd hq hne | cons _ _ => simp), Bool.true_and]; exact beq_iff_eq.mpr hm0
                      conv => whnf
                      repeat (first | ((with_reducible first | apply ga | apply gb | apply gc | apply gd | apply ge | apply gf | apply gg | apply gh | apply gi | apply gj); conv => whnf) | (refine ⟨⟨rfl, rfl, nle rfl, nle rfl⟩, ?_⟩; conv => whnf) | fail)
                      refine ⟨⟨by unfold inI64; omega⟩, ?_⟩
                      conv => whnf
                      repeat (first | ((with_reducible first | apply ga | apply gb | apply gc | apply gd | apply ge | apply gf | apply gg | apply gh | apply gi | apply gj); conv => whnf) | (refine ⟨⟨rfl, rfl, nle rfl, nle rfl⟩, ?_⟩; conv => whnf) | fail)
                      have hO : opnd s = (az, ((nameLen s : Int) + 1), 5) := by rw [opnd, if_neg hA, if_neg h8', if_neg he, if_pos hS, if_pos hm]
                      rw [hO]
                      exact done_tup [Arg.av az, i64 (((nameLen s : Int) + 1)), i64 5] [] rfl ⟨agg3 .same .same .same, .same, .same, trivial⟩
                    · have hm : [45].isPrefixOf (s.drop (nameLen s + 1)) = false := by
                        rw [pre1, show ((((s.drop (nameLen s + 1)).getD 0 0).toNat : Int) == ((45 : UInt8).toNat : Int)) = false from beq_eq_false_iff_ne.mpr hm0, Bool.and_false]
                      conv => whnf
                      repeat (first | ((with_reducible first | apply ga | apply gb | apply gc | apply gd | apply ge | apply gf | apply gg | apply gh | apply gi | apply gj); conv => whnf) | (refine ⟨⟨rfl, rfl, nle rfl, nle rfl⟩, ?_⟩; conv => whnf) | fail)
                      have hm' : ¬ [45].isPrefixOf (s.drop (nameLen s + 1)) = true := by rw [hm]; simp
                      refine CallK.flat [] (f15 (s.drop (nameLen s + 1)) hr) ⟨.same, trivial⟩ rfl ?_
                      conv => whnf
                      repeat (first | ((with_reducible first | apply ga | apply gb | apply gc | apply gd | apply ge | apply gf | apply gg | apply gh | apply gi | apply gj); conv => whnf) | (refine ⟨⟨rfl, rfl, nle rfl, nle rfl⟩, ?_⟩; conv => whnf) | fail)
                      refine ⟨fun hn => ?_, fun hn => ?_⟩ <;> replace hn := nm hn <;> (try simp only [Int.toNat_zero] at hn) <;> (try simp only [Int.toNat_one] at hn)
                      · conv => whnf
                        repeat (first | ((with_reducible first | apply ga | apply gb | apply gc | apply gd | apply ge | apply gf | apply gg | apply gh | apply gi | apply gj); conv => whnf) | (refine ⟨⟨rfl, rfl, nle rfl, nle rfl⟩, ?_⟩; conv => whnf) | fail)
                        refine ⟨⟨by unfold inI64; omega⟩, ?_⟩
                        conv => whnf
                        repeat (first | ((with_reducible first | apply ga | apply gb | apply gc | apply gd | apply ge | apply gf | apply gg | apply gh | apply gi | apply gj); conv => whnf) | (refine ⟨⟨rfl, rfl, nle rfl, nle rfl⟩, ?_⟩; conv => whnf) | fail)
                        have hO : opnd s = (az, ((nameLen s : Int) + 1), (num (s.drop (nameLen s + 1))).2) := by rw [opnd, if_neg hA, if_neg h8', if_neg he, if_pos hS, if_neg hm', if_pos hn]
                        rw [hO]
                        exact done_tup [Arg.av az, i64 (((nameLen s : Int) + 1)), i64 ((num (s.drop (nameLen s + 1))).2)] [] rfl ⟨agg3 .same .same .same, .same, .same, trivial⟩
                      · conv => whnf
                        repeat (first | ((with_reducible first | apply ga | apply gb | apply gc | apply gd | apply ge | apply gf | apply gg | apply gh | apply gi | apply gj); conv => whnf) | (refine ⟨⟨rfl, rfl, nle rfl, nle rfl⟩, ?_⟩; conv => whnf) | fail)
                        refine ⟨⟨by omega, by omega⟩, ?_⟩
                        conv => whnf
                        repeat (first | ((with_reducible first | apply ga | apply gb | apply gc | apply gd | apply ge | apply gf | apply gg | apply gh | apply gi | apply gj); conv => whnf) | (refine ⟨⟨rfl, rfl, nle rfl, nle rfl⟩, ?_⟩; conv => whnf) | fail)
                        rw [show ((nameLen s : Int)).toNat = nameLen s from Int.toNat_natCast _]
                        refine ⟨fun h45x => ?_, fun h45x => ?_⟩ <;> replace h45x := nm h45x <;> (try simp only [Int.toNat_zero] at h45x) <;> (try simp only [Int.toNat_one] at h45x)
                        · conv => whnf
                          repeat (first | ((with_reducible first | apply ga | apply gb | apply gc | apply gd | apply ge | apply gf | apply gg | apply gh | apply gi | apply gj); conv => whnf) | (refine ⟨⟨rfl, rfl, nle rfl, nle rfl⟩, ?_⟩; conv => whnf) | fail)
                          refine ⟨⟨by unfold inI64; omega⟩, ?_⟩
                          conv => whnf
                          repeat (first | ((with_reducible first | apply ga | apply gb | apply gc | apply gd | apply ge | apply gf | apply gg | apply gh | apply gi | apply gj); conv => whnf) | (refine ⟨⟨rfl, rfl, nle rfl, nle rfl⟩, ?_⟩; conv => whnf) | fail)
                          have hO : opnd s = (⟨2, s.take (nameLen s), -(num (s.drop (nameLen s + 1))).1⟩, 0, 0) := by rw [opnd, if_neg hA, if_neg h8', if_neg he, if_pos hS, if_neg hm', if_neg (fun h => h hn), if_pos h45]
                          rw [hO]
                          exact done_tup [Arg.av ⟨2, s.take (nameLen s), -(num (s.drop (nameLen s + 1))).1⟩, i64 0, i64 0] [] rfl ⟨agg3 .same .same (.int (by dsimp only <;> omega)), .same, .same, trivial⟩
                        · exact absurd h45 h45x
                  · have hm : [45].isPrefixOf (s.drop (nameLen s + 1)) = false := by
                      rw [pre1, List.eq_nil_of_length_eq_zero (l := s.drop (nameLen s + 1)) (by cases hq : s.drop (nameLen s + 1) with | nil => rfl | cons _ _ => rw [hq] at hne; simp at hne)]; rfl
                    conv => whnf
                    repeat (first | ((with_reducible first | apply ga | apply gb | apply gc | apply gd | apply ge | apply gf | apply gg | apply gh | apply gi | apply gj); conv => whnf) | (refine ⟨⟨rfl, rfl, nle rfl, nle rfl⟩, ?_⟩; conv => whnf) | fail)
                    have hm' : ¬ [45].isPrefixOf (s.drop (nameLen s + 1)) = true := by rw [hm]; simp
                    refine CallK.flat [] (f15 (s.drop (nameLen s + 1)) hr) ⟨.same, trivial⟩ rfl ?_
                    conv => whnf
                    repeat (first | ((with_reducible first | apply ga | apply gb | apply gc | apply gd | apply ge | apply gf | apply gg | apply gh | apply gi | apply gj); conv => whnf) | (refine ⟨⟨rfl, rfl, nle rfl, nle rfl⟩, ?_⟩; conv => whnf) | fail)
                    refine ⟨fun hn => ?_, fun hn => ?_⟩ <;> replace hn := nm hn <;> (try simp only [Int.toNat_zero] at hn) <;> (try simp only [Int.toNat_one] at hn)
                    · conv => whnf
                      repeat (first | ((with_reducible first | apply ga | apply gb | apply gc | apply gd | apply ge | apply gf | apply gg | apply gh | apply gi | apply gj); conv => whnf) | (refine ⟨⟨rfl, rfl, nle rfl, nle rfl⟩, ?_⟩; conv => whnf) | fail)
                      refine ⟨⟨by unfold inI64; omega⟩, ?_⟩
                      conv => whnf
                      repeat (first | ((with_reducible first | apply ga | apply gb | apply gc | apply gd | apply ge | apply gf | apply gg | apply gh | apply gi | apply gj); conv => whnf) | (refine ⟨⟨rfl, rfl, nle rfl, nle rfl⟩, ?_⟩; conv => whnf) | fail)
                      have hO : opnd s = (az, ((nameLen s : Int) + 1), (num (s.drop (nameLen s + 1))).2) := by rw [opnd, if_neg hA, if_neg h8', if_neg he, if_pos hS, if_neg hm', if_pos hn]
                      rw [hO]
                      exact done_tup [Arg.av az, i64 (((nameLen s : Int) + 1)), i64 ((num (s.drop (nameLen s + 1))).2)] [] rfl ⟨agg3 .same .same .same, .same, .same, trivial⟩
                    · conv => whnf
                      repeat (first | ((with_reducible first | apply ga | apply gb | apply gc | apply gd | apply ge | apply gf | apply gg | apply gh | apply gi | apply gj); conv => whnf) | (refine ⟨⟨rfl, rfl, nle rfl, nle rfl⟩, ?_⟩; conv => whnf) | fail)
                      refine ⟨⟨by omega, by omega⟩, ?_⟩
                      conv => whnf
                      repeat (first | ((with_reducible first | apply ga | apply gb | apply gc | apply gd | apply ge | apply gf | apply gg | apply gh | apply gi | apply gj); conv => whnf) | (refine ⟨⟨rfl, rfl, nle rfl, nle rfl⟩, ?_⟩; conv => whnf) | fail)
                      rw [show ((nameLen s : Int)).toNat = nameLen s from Int.toNat_natCast _]
                      refine ⟨fun h45x => ?_, fun h45x => ?_⟩ <;> replace h45x := nm h45x <;> (try simp only [Int.toNat_zero] at h45x) <;> (try simp only [Int.toNat_one] at h45x)
                      · conv => whnf
                        repeat (first | ((with_reducible first | apply ga | apply gb | apply gc | apply gd | apply ge | apply gf | apply gg | apply gh | apply gi | apply gj); conv => whnf) | (refine ⟨⟨rfl, rfl, nle rfl, nle rfl⟩, ?_⟩; conv => whnf) | fail)
                        refine ⟨⟨by unfold inI64; omega⟩, ?_⟩
                        conv => whnf
                        repeat (first | ((with_reducible first | apply ga | apply gb | apply gc | apply gd | apply ge | apply gf | apply gg | apply gh | apply gi | apply gj); conv => whnf) | (refine ⟨⟨rfl, rfl, nle rfl, nle rfl⟩, ?_⟩; conv => whnf) | fail)
                        have hO : opnd s = (⟨2, s.take (nameLen s), -(num (s.drop (nameLen s + 1))).1⟩, 0, 0) := by rw [opnd, if_neg hA, if_neg h8', if_neg he, if_pos hS, if_neg hm', if_neg (fun h => h hn), if_pos h45]
                        rw [hO]
                        exact done_tup [Arg.av ⟨2, s.take (nameLen s), -(num (s.drop (nameLen s + 1))).1⟩, i64 0, i64 0] [] rfl ⟨agg3 .same .same (.int (by dsimp only <;> omega)), .same, .same, trivial⟩
                      · exact absurd h45 h45x
              · have hS : ((s.getD (nameLen s) 0).toNat : Int) = 43 ∨ ((s.getD (nameLen s) 0).toNat : Int) = 45 := .inl h43
                conv => whnf
                repeat (first | ((with_reducible first | apply ga | apply gb | apply gc | apply gd | apply ge | apply gf | apply gg | apply gh | apply gi | apply gj); conv => whnf) | (refine ⟨⟨rfl, rfl, nle rfl, nle rfl⟩, ?_⟩; conv => whnf) | fail)
                refine ⟨⟨by unfold inI64; omega⟩, ?_⟩
                conv => whnf
                repeat (first | ((with_reducible first | apply ga | apply gb | apply gc | apply gd | apply ge | apply gf | apply gg | apply gh | apply gi | apply gj); conv => whnf) | (refine ⟨⟨rfl, rfl, nle rfl, nle rfl⟩, ?_⟩; conv => whnf) | fail)
                refine ⟨⟨by omega, by omega⟩, ?_⟩
                conv => whnf
                repeat (first | ((with_reducible first | apply ga | apply gb | apply gc | apply gd | apply ge | apply gf | apply gg | apply gh | apply gi | apply gj); conv => whnf) | (refine ⟨⟨rfl, rfl, nle rfl, nle rfl⟩, ?_⟩; conv => whnf) | fail)
                rw [hd]
                refine ⟨fun hne => ?_, fun hne => ?_⟩ <;> replace hne := nm hne <;> (try simp only [Int.toNat_zero] at hne) <;> (try simp only [Int.toNat_one] at hne)
                · conv => whnf
                  repeat (first | ((with_reducible first | apply ga | apply gb | apply gc | apply gd | apply ge | apply gf | apply gg | apply gh | apply gi | apply gj); conv => whnf) | (refine ⟨⟨rfl, rfl, nle rfl, nle rfl⟩, ?_⟩; conv => whnf) | fail)
                  refine ⟨⟨by omega, by cases hq : s.drop (nameLen s + 1) with | nil => exact absurd hq hne | cons _ _ => simp⟩, ?_⟩
                  conv => whnf
                  repeat (first | ((with_reducible first | apply ga | apply gb | apply gc | apply gd | apply ge | apply gf | apply gg | apply gh | apply gi | apply gj); conv => whnf) | (refine ⟨⟨rfl, rfl, nle rfl, nle rfl⟩, ?_⟩; conv => whnf) | fail)
                  refine ⟨fun hm0 => ?_, fun hm0 => ?_⟩ <;> replace hm0 := nm hm0 <;> (try simp only [Int.toNat_zero] at hm0) <;> (try simp only [Int.toNat_one] at hm0)
                  · have hm : [45].isPrefixOf (s.drop (nameLen s + 1)) = true := by
                      rw [pre1, decide_eq_true (by cases hq : s.drop (nameLen s + 1) with | nil => exact absurd hq hne | cons _ _ => simp), Bool.true_and]; exact beq_iff_eq.mpr hm0
                    conv => whnf
                    repeat (first | ((with_reducible first | apply ga | apply gb | apply gc | apply gd | apply ge | apply gf | apply gg | apply gh | apply gi | apply gj); conv => whnf) | (refine ⟨⟨rfl, rfl, nle rfl, nle rfl⟩, ?_⟩; conv => whnf) | fail)
                    refine ⟨⟨by unfold inI64; omega⟩, ?_⟩
                    conv => whnf
                    repeat (first | ((with_reducible first | apply ga | apply gb | apply gc | apply gd | apply ge | apply gf | apply gg | apply gh | apply gi | apply gj); conv => whnf) | (refine ⟨⟨rfl, rfl, nle rfl, nle rfl⟩, ?_⟩; conv => whnf) | fail)
                    have hO : opnd s = (az, ((nameLen s : Int) + 1), 5) := by rw [opnd, if_neg hA, if_neg h8', if_neg he, if_pos hS, if_pos hm]
                    rw [hO]
                    exact done_tup [Arg.av az, i64 (((nameLen s : Int) + 1)), i64 5] [] rfl ⟨agg3 .same .same .same, .same, .same, trivial⟩
                  · have hm : [45].isPrefixOf (s.drop (nameLen s + 1)) = false := by
                      rw [pre1, show ((((s.drop (nameLen s + 1)).getD 0 0).toNat : Int) == ((45 : UInt8).toNat : Int)) = false from beq_eq_false_iff_ne.mpr hm0, Bool.and_false]
                    conv => whnf
                    repeat (first | ((with_reducible first | apply ga | apply gb | apply gc | apply gd | apply ge | apply gf | apply gg | apply gh | apply gi | apply gj); conv => whnf) | (refine ⟨⟨rfl, rfl, nle rfl, nle rfl⟩, ?_⟩; conv => whnf) | fail)
                    have hm' : ¬ [45].isPrefixOf (s.drop (nameLen s + 1)) = true := by rw [hm]; simp
                    refine CallK.flat [] (f15 (s.drop (nameLen s + 1)) hr) ⟨.same, trivial⟩ rfl ?_
                    conv => whnf
                    repeat (first | ((with_reducible first | apply ga | apply gb | apply gc | apply gd | apply ge | apply gf | apply gg | apply gh | apply gi | apply gj); conv => whnf) | (refine ⟨⟨rfl, rfl, nle rfl, nle rfl⟩, ?_⟩; conv => whnf) | fail)
                    refine ⟨fun hn => ?_, fun hn => ?_⟩ <;> replace hn := nm hn <;> (try simp only [Int.toNat_zero] at hn) <;> (try simp only [Int.toNat_one] at hn)
                    · conv => whnf
                      repeat (first | ((with_reducible first | apply ga | apply gb | apply gc | apply gd | apply ge | apply gf | apply gg | apply gh | apply gi | apply gj); conv => whnf) | (refine ⟨⟨rfl, rfl, nle rfl, nle rfl⟩, ?_⟩; conv => whnf) | fail)
                      refine ⟨⟨by unfold inI64; omega⟩, ?_⟩
                      conv => whnf
                      repeat (first | ((with_reducible first | apply ga | apply gb | apply gc | apply gd | apply ge | apply gf | apply gg | apply gh | apply gi | apply gj); conv => whnf) | (refine ⟨⟨rfl, rfl, nle rfl, nle rfl⟩, ?_⟩; conv => whnf) | fail)
                      have hO : opnd s = (az, ((nameLen s : Int) + 1), (num (s.drop (nameLen s + 1))).2) := by rw [opnd, if_neg hA, if_neg h8', if_neg he, if_pos hS, if_neg hm', if_pos hn]
                      rw [hO]
                      exact done_tup [Arg.av az, i64 (((nameLen s : Int) + 1)), i64 ((num (s.drop (nameLen s + 1))).2)] [] rfl ⟨agg3 .same .same .same, .same, .same, trivial⟩
                    · conv => whnf
                      repeat (first | ((with_reducible first | apply ga | apply gb | apply gc | apply gd | apply ge | apply gf | apply gg | apply gh | apply gi | apply gj); conv => whnf) | (refine ⟨⟨rfl, rfl, nle rfl, nle rfl⟩, ?_⟩; conv => whnf) | fail)
                      refine ⟨⟨by omega, by omega⟩, ?_⟩
                      conv => whnf
                      repeat (first | ((with_reducible first | apply ga | apply gb | apply gc | apply gd | apply ge | apply gf | apply gg | apply gh | apply gi | apply gj); conv => whnf) | (refine ⟨⟨rfl, rfl, nle rfl, nle rfl⟩, ?_⟩; conv => whnf) | fail)
                      rw [show ((nameLen s : Int)).toNat = nameLen s from Int.toNat_natCast _]
                      refine ⟨fun h45x => ?_, fun h45x => ?_⟩ <;> replace h45x := nm h45x <;> (try simp only [Int.toNat_zero] at h45x) <;> (try simp only [Int.toNat_one] at h45x)
                      · exfalso; omega
                      · conv => whnf
                        repeat (first | ((with_reducible first | apply ga | apply gb | apply gc | apply gd | apply ge | apply gf | apply gg | apply gh | apply gi | apply gj); conv => whnf) | (refine ⟨⟨rfl, rfl, nle rfl, nle rfl⟩, ?_⟩; conv => whnf) | fail)
                        have hO : opnd s = (⟨2, s.take (nameLen s), (num (s.drop (nameLen s + 1))).1⟩, 0, 0) := by rw [opnd, if_neg hA, if_neg h8', if_neg he, if_pos hS, if_neg hm', if_neg (fun h => h hn), if_neg (by omega)]
                        rw [hO]
                        exact done_tup [Arg.av ⟨2, s.take (nameLen s), (num (s.drop (nameLen s + 1))).1⟩, i64 0, i64 0] [] rfl ⟨agg3 .same .same (.int (by dsimp only <;> omega)), .same, .same, trivial⟩
                · have hm : [45].isPrefixOf (s.drop (nameLen s + 1)) = false := by
                    rw [pre1, List.eq_nil_of_length_eq_zero (l := s.drop (nameLen s + 1)) (by cases hq : s.drop (nameLen s + 1) with | nil => rfl | cons _ _ => rw [hq] at hne; simp at hne)]; rfl
                  conv => whnf
                  repeat (first | ((with_reducible first | apply ga | apply gb | apply gc | apply gd | apply ge | apply gf | apply gg | apply gh | apply gi | apply gj); conv => whnf) | (refine ⟨⟨rfl, rfl, nle rfl, nle rfl⟩, ?_⟩; conv => whnf) | fail)
                  have hm' : ¬ [45].isPrefixOf (s.drop (nameLen s + 1)) = true := by rw [hm]; simp
                  refine CallK.flat [] (f15 (s.drop (nameLen s + 1)) hr) ⟨.same, trivial⟩ rfl ?_
                  conv => whnf
                  repeat (first | ((with_reducible first | apply ga | apply gb | apply gc | apply gd | apply ge | apply gf | apply gg | apply gh | apply gi | apply gj); conv => whnf) | (refine ⟨⟨rfl, rfl, nle rfl, nle rfl⟩, ?_⟩; conv => whnf) | fail)
                  refine ⟨fun hn => ?_, fun hn => ?_⟩ <;> replace hn := nm hn <;> (try simp only [Int.toNat_zero] at hn) <;> (try simp only [Int.toNat_one] at hn)
                  · conv => whnf
                    repeat (first | ((with_reducible first | apply ga | apply gb | apply gc | apply gd | apply ge | apply gf | apply gg | apply gh | apply gi | apply gj); conv => whnf) | (refine ⟨⟨rfl, rfl, nle rfl, nle rfl⟩, ?_⟩; conv => whnf) | fail)
                    refine ⟨⟨by unfold inI64; omega⟩, ?_⟩
                    conv => whnf
                    repeat (first | ((with_reducible first | apply ga | apply gb | apply gc | apply gd | apply ge | apply gf | apply gg | apply gh | apply gi | apply gj); conv => whnf) | (refine ⟨⟨rfl, rfl, nle rfl, nle rfl⟩, ?_⟩; conv => whnf) | fail)
                    have hO : opnd s = (az, ((nameLen s : Int) + 1), (num (s.drop (nameLen s + 1))).2) := by rw [opnd, if_neg hA, if_neg h8', if_neg he, if_pos hS, if_neg hm', if_pos hn]
                    rw [hO]
                    exact done_tup [Arg.av az, i64 (((nameLen s : Int) + 1)), i64 ((num (s.drop (nameLen s + 1))).2)] [] rfl ⟨agg3 .same .same .same, .same, .same, trivial⟩
                  · conv => whnf
                    repeat (first | ((with_reducible first | apply ga | apply gb | apply gc | apply gd | apply ge | apply gf | apply gg | apply gh | apply gi | apply gj); conv => whnf) | (refine ⟨⟨rfl, rfl, nle rfl, nle rfl⟩, ?_⟩; conv => whnf) | fail)
                    refine ⟨⟨by omega, by omega⟩, ?_⟩
                    conv => whnf
                    repeat (first | ((with_reducible first | apply ga | apply gb | apply gc | apply gd | apply ge | apply gf | apply gg | apply gh | apply gi | apply gj); conv => whnf) | (refine ⟨⟨rfl, rfl, nle rfl, nle rfl⟩, ?_⟩; conv => whnf) | fail)
                    rw [show ((nameLen s : Int)).toNat = nameLen s from Int.toNat_natCast _]
                    refine ⟨fun h45x => ?_, fun h45x => ?_⟩ <;> replace h45x := nm h45x <;> (try simp only [Int.toNat_zero] at h45x) <;> (try simp only [Int.toNat_one] at h45x)
                    · exfalso; omega
                    · conv => whnf
                      repeat (first | ((with_reducible first | apply ga | apply gb | apply gc | apply gd | apply ge | apply gf | apply gg | apply gh | apply gi | apply gj); conv => whnf) | (refine ⟨⟨rfl, rfl, nle rfl, nle rfl⟩, ?_⟩; conv => whnf) | fail)
                      have hO : opnd s = (⟨2, s.take (nameLen s), (num (s.drop (nameLen s + 1))).1⟩, 0, 0) := by rw [opnd, if_neg hA, if_neg h8', if_neg he, if_pos hS, if_neg hm', if_neg (fun h => h hn), if_neg (by omega)]
                      rw [hO]
                      exact done_tup [Arg.av ⟨2, s.take (nameLen s), (num (s.drop (nameLen s + 1))).1⟩, i64 0, i64 0] [] rfl ⟨agg3 .same .same (.int (by dsimp only <;> omega)), .same, .same, trivial⟩
      · obtain rfl : i = nameLen s := by unfold nameLen at hk ⊢; omega
        clear hi hc
        conv => whnf
        repeat (first | ((with_reducible first | apply ga | apply gb | apply gc | apply gd | apply ge | apply gf | apply gg | apply gh | apply gi | apply gj); conv => whnf) | (refine ⟨⟨rfl, rfl, nle rfl, nle rfl⟩, ?_⟩; conv => whnf) | fail)
        refine ⟨fun h8 => ?_, fun h8 => ?_⟩ <;> replace h8 := nm h8 <;> (try simp only [Int.toNat_zero] at h8) <;> (try simp only [Int.toNat_one] at h8)
        · conv => whnf
          repeat (first | ((with_reducible first | apply ga | apply gb | apply gc | apply gd | apply ge | apply gf | apply gg | apply gh | apply gi | apply gj); conv => whnf) | (refine ⟨⟨rfl, rfl, nle rfl, nle rfl⟩, ?_⟩; conv => whnf) | fail)
          have hO : opnd s = (az, 0, 5) := by rw [opnd, if_neg hA, if_pos h8]
          rw [hO]
          exact done_tup [Arg.av az, i64 0, i64 5] [] rfl ⟨agg3 .same .same .same, .same, .same, trivial⟩
        · have h8' := Int.not_lt.mpr h8
          conv => whnf
          repeat (first | ((with_reducible first | apply ga | apply gb | apply gc | apply gd | apply ge | apply gf | apply gg | apply gh | apply gi | apply gj); conv => whnf) | (refine ⟨⟨rfl, rfl, nle rfl, nle rfl⟩, ?_⟩; conv => whnf) | fail)
          refine ⟨⟨by omega, by omega⟩, ?_⟩
          conv => whnf
          repeat (first | ((with_reducible first | apply ga | apply gb | apply gc | apply gd | apply ge | apply gf | apply gg | apply gh | apply gi | apply gj); conv => whnf) | (refine ⟨⟨rfl, rfl, nle rfl, nle rfl⟩, ?_⟩; conv => whnf) | fail)
          rw [show ((nameLen s : Int)).toNat = nameLen s from Int.toNat_natCast _]
          refine ⟨fun he => ?_, fun he => ?_⟩ <;> replace he := nm he <;> (try simp only [Int.toNat_zero] at he) <;> (try simp only [Int.toNat_one] at he)
          · conv => whnf
            repeat (first | ((with_reducible first | apply ga | apply gb | apply gc | apply gd | apply ge | apply gf | apply gg | apply gh | apply gi | apply gj); conv => whnf) | (refine ⟨⟨rfl, rfl, nle rfl, nle rfl⟩, ?_⟩; conv => whnf) | fail)
            have hO : opnd s = (⟨2, s.take (nameLen s), 0⟩, 0, 0) := by rw [opnd, if_neg hA, if_neg h8', if_pos he]
            rw [hO]
            exact done_tup [Arg.av ⟨2, s.take (nameLen s), 0⟩, i64 0, i64 0] [] rfl ⟨agg3 .same .same .same, .same, .same, trivial⟩
          · have hlt : nameLen s < s.length := by omega
            have hd : s.drop ((nameLen s : Int) + 1).toNat = s.drop (nameLen s + 1) := by congr 1
            conv => whnf
            repeat (first | ((with_reducible first | apply ga | apply gb | apply gc | apply gd | apply ge | apply gf | apply gg | apply gh | apply gi | apply gj); conv => whnf) | (refine ⟨⟨rfl, rfl, nle rfl, nle rfl⟩, ?_⟩; conv => whnf) | fail)
            refine ⟨⟨by omega, by omega⟩, ?_⟩
            conv => whnf
            repeat (first | ((with_reducible first | apply ga | apply gb | apply gc | apply gd | apply ge | apply gf | apply gg | apply gh | apply gi | apply gj); conv => whnf) | (refine ⟨⟨rfl, rfl, nle rfl, nle rfl⟩, ?_⟩; conv => whnf) | fail)
            rw [show ((nameLen s : Int)).toNat = nameLen s from Int.toNat_natCast _]
            refine ⟨fun h43 => ?_, fun h43 => ?_⟩ <;> replace h43 := nm h43 <;> (try simp only [Int.toNat_zero] at h43) <;> (try simp only [Int.toNat_one] at h43)
            · conv => whnf
              repeat (first | ((with_reducible first | apply ga | apply gb | apply gc | apply gd | apply ge | apply gf | apply gg | apply gh | apply gi | apply gj); conv => whnf) | (refine ⟨⟨rfl, rfl, nle rfl, nle rfl⟩, ?_⟩; conv => whnf) | fail)
              refine ⟨⟨by omega, by omega⟩, ?_⟩
              conv => whnf
              repeat (first | ((with_reducible first | apply ga | apply gb | apply gc | apply gd | apply ge | apply gf | apply gg | apply gh | apply gi | apply gj); conv => whnf) | (refine ⟨⟨rfl, rfl, nle rfl, nle rfl⟩, ?_⟩; conv => whnf) | fail)
              rw [show ((nameLen s : Int)).toNat = nameLen s from Int.toNat_natCast _]
              refine ⟨fun h45 => ?_, fun h45 => ?_⟩ <;> replace h45 := nm h45 <;> (try simp only [Int.toNat_zero] at h45) <;> (try simp only [Int.toNat_one] at h45)
              · conv => whnf
                repeat (first | ((with_reducible first | apply ga | apply gb | apply gc | apply gd | apply ge | apply gf | apply gg | apply gh | apply gi | apply gj); conv => whnf) | (refine ⟨⟨rfl, rfl, nle rfl, nle rfl⟩, ?_⟩; conv => whnf) | fail)
                have hO : opnd s = (az, (nameLen s : Int), 5) := by rw [opnd, if_neg hA, if_neg h8', if_neg he, if_neg (fun h => h.elim h43 h45)]
                rw [hO]
                exact done_tup [Arg.av az, i64 ((nameLen s : Int)), i64 5] [] rfl ⟨agg3 .same .same .same, .same, .same, trivial⟩
              · have hS : ((s.getD (nameLen s) 0).toNat : Int) = 43 ∨ ((s.getD (nameLen s) 0).toNat : Int) = 45 := .inr h45
                conv => whnf
                repeat (first | ((with_reducible first | apply ga | apply gb | apply gc | apply gd | apply ge | apply gf | apply gg | apply gh | apply gi | apply gj); conv => whnf) | (refine ⟨⟨rfl, rfl, nle rfl, nle rfl⟩, ?_⟩; conv => whnf) | fail)
                refine ⟨⟨by unfold inI64; omega⟩, ?_⟩
                conv => whnf
                repeat (first | ((with_reducible first | apply ga | apply gb | apply gc | apply gd | apply ge | apply gf | apply gg | apply gh | apply gi | apply gj); conv => whnf) | (refine ⟨⟨rfl, rfl, nle rfl, nle rfl⟩, ?_⟩; conv => whnf) | fail)
                refine ⟨⟨by omega, by omega⟩, ?_⟩
                conv => whnf
                repeat (first | ((with_reducible first | apply ga | apply gb | apply gc | apply gd | apply ge | apply gf | apply gg | apply gh | apply gi | apply gj); conv => whnf) | (refine ⟨⟨rfl, rfl, nle rfl, nle rfl⟩, ?_⟩; conv => whnf) | fail)
                rw [hd]
                refine ⟨fun hne => ?_, fun hne => ?_⟩ <;> replace hne := nm hne <;> (try simp only [Int.toNat_zero] at hne) <;> (try simp only [Int.toNat_one] at hne)
                · conv => whnf
                  repeat (first | ((with_reducible first | apply ga | apply gb | apply gc | apply gd | apply ge | apply gf | apply gg | apply gh | apply gi | apply gj); conv => whnf) | (refine ⟨⟨rfl, rfl, nle rfl, nle rfl⟩, ?_⟩; conv => whnf) | fail)
                  refine ⟨⟨by omega, by cases hq : s.drop (nameLen s + 1) with | nil => exact absurd hq hne | cons _ _ => simp⟩, ?_⟩
                  conv => whnf
                  repeat (first | ((with_reducible first | apply ga | apply gb | apply gc | apply gd | apply ge | apply gf | apply gg | apply gh | apply gi | apply gj); conv => whnf) | (refine ⟨⟨rfl, rfl, nle rfl, nle rfl⟩, ?_⟩; conv => whnf) | fail)
                  refine ⟨fun hm0 => ?_, fun hm0 => ?_⟩ <;> replace hm0 := nm hm0 <;> (try simp only [Int.toNat_zero] at hm0) <;> (try simp only [Int.toNat_one] at hm0)
                  · have hm : [45].isPrefixOf (s.drop (nameLen s + 1)) = true := by
                      rw [pre1, decide_eq_true (by cases hq : s.drop (nameLen s + 1) with | nil => exact absurd hq hne | cons _ _ => simp), Bool.true_and]; exact beq_iff_eq.mpr hm0
                    conv => whnf
                    repeat (first | ((with_reducible first | apply ga | apply gb | apply gc | apply gd | apply ge | apply gf | apply gg | apply gh | apply gi | apply gj); conv => whnf) | (refine ⟨⟨rfl, rfl, nle rfl, nle rfl⟩, ?_⟩; conv => whnf) | fail)
                    refine ⟨⟨by unfold inI64; omega⟩, ?_⟩
                    conv => whnf
                    repeat (first | ((with_reducible first | apply ga | apply gb | apply gc | apply gd | apply ge | apply gf | apply gg | apply gh | apply gi | apply gj); conv => whnf) | (refine ⟨⟨rfl, rfl, nle rfl, nle rfl⟩, ?_⟩; conv => whnf) | fail)
                    have hO : opnd s = (az, ((nameLen s : Int) + 1), 5) := by rw [opnd, if_neg hA, if_neg h8', if_neg he, if_pos hS, if_pos hm]
                    rw [hO]
                    exact done_tup [Arg.av az, i64 (((nameLen s : Int) + 1)), i64 5] [] rfl ⟨agg3 .same .same .same, .same, .same, trivial⟩
                  · have hm : [45].isPrefixOf (s.drop (nameLen s + 1)) = false := by
                      rw [pre1, show ((((s.drop (nameLen s + 1)).getD 0 0).toNat : Int) == ((45 : UInt8).toNat : Int)) = false from beq_eq_false_iff_ne.mpr hm0, Bool.and_false]
                    conv => whnf
                    repeat (first | ((with_reducible first | apply ga | apply gb | apply gc | apply gd | apply ge | apply gf | apply gg | apply gh | apply gi | apply gj); conv => whnf) | (refine ⟨⟨rfl, rfl, nle rfl, nle rfl⟩, ?_⟩; conv => whnf) | fail)
                    have hm' : ¬ [45].isPrefixOf (s.drop (nameLen s + 1)) = true := by rw [hm]; simp
                    refine CallK.flat [] (f15 (s.drop (nameLen s + 1)) hr) ⟨.same, trivial⟩ rfl ?_
                    conv => whnf
                    repeat (first | ((with_reducible first | apply ga | apply gb | apply gc | apply gd | apply ge | apply gf | apply gg | apply gh | apply gi | apply gj); conv => whnf) | (refine ⟨⟨rfl, rfl, nle rfl, nle rfl⟩, ?_⟩; conv => whnf) | fail)
                    refine ⟨fun hn => ?_, fun hn => ?_⟩ <;> replace hn := nm hn <;> (try simp only [Int.toNat_zero] at hn) <;> (try simp only [Int.toNat_one] at hn)
                    · conv => whnf
                      repeat (first | ((with_reducible first | apply ga | apply gb | apply gc | apply gd | apply ge | apply gf | apply gg | apply gh | apply gi | apply gj); conv => whnf) | (refine ⟨⟨rfl, rfl, nle rfl, nle rfl⟩, ?_⟩; conv => whnf) | fail)
                      refine ⟨⟨by unfold inI64; omega⟩, ?_⟩
                      conv => whnf
                      repeat (first | ((with_reducible first | apply ga | apply gb | apply gc | apply gd | apply ge | apply gf | apply gg | apply gh | apply gi | apply gj); conv => whnf) | (refine ⟨⟨rfl, rfl, nle rfl, nle rfl⟩, ?_⟩; conv => whnf) | fail)
                      have hO : opnd s = (az, ((nameLen s : Int) + 1), (num (s.drop (nameLen s + 1))).2) := by rw [opnd, if_neg hA, if_neg h8', if_neg he, if_pos hS, if_neg hm', if_pos hn]
                      rw [hO]
                      exact done_tup [Arg.av az, i64 (((nameLen s : Int) + 1)), i64 ((num (s.drop (nameLen s + 1))).2)] [] rfl ⟨agg3 .same .same .same, .same, .same, trivial⟩
                    · conv => whnf
                      repeat (first | ((with_reducible first | apply ga | apply gb | apply gc | apply gd | apply ge | apply gf | apply gg | apply gh | apply gi | apply gj); conv => whnf) | (refine ⟨⟨rfl, rfl, nle rfl, nle rfl⟩, ?_⟩; conv => whnf) | fail)
                      refine ⟨⟨by omega, by omega⟩, ?_⟩
                      conv => whnf
                      repeat (first | ((with_reducible first | apply ga | apply gb | apply gc | apply gd | apply ge | apply gf | apply gg | apply gh | apply gi | apply gj); conv => whnf) | (refine ⟨⟨rfl, rfl, nle rfl, nle rfl⟩, ?_⟩; conv => whnf) | fail)
                      rw [show ((nameLen s : Int)).toNat = nameLen s from Int.toNat_natCast _]
                      refine ⟨fun h45x => ?_, fun h45x => ?_⟩ <;> replace h45x := nm h45x <;> (try simp only [Int.toNat_zero] at h45x) <;> (try simp only [Int.toNat_one] at h45x)
                      · conv => whnf
                        repeat (first | ((with_reducible first | apply ga | apply gb | apply gc | apply gd | apply ge | apply gf | apply gg | apply gh | apply gi | apply gj); conv => whnf) | (refine ⟨⟨rfl, rfl, nle rfl, nle rfl⟩, ?_⟩; conv => whnf) | fail)
                        refine ⟨⟨by unfold inI64; omega⟩, ?_⟩
                        conv => whnf
                        repeat (first | ((with_reducible first | apply ga | apply gb | apply gc | apply gd | apply ge | apply gf | apply gg | apply gh | apply gi | apply gj); conv => whnf) | (refine ⟨⟨rfl, rfl, nle rfl, nle rfl⟩, ?_⟩; conv => whnf) | fail)
                        have hO : opnd s = (⟨2, s.take (nameLen s), -(num (s.drop (nameLen s + 1))).1⟩, 0, 0) := by rw [opnd, if_neg hA, if_neg h8', if_neg he, if_pos hS, if_neg hm', if_neg (fun h => h hn), if_pos h45]
                        rw [hO]
                        exact done_tup [Arg.av ⟨2, s.take (nameLen s), -(num (s.drop (nameLen s + 1))).1⟩, i64 0, i64 0] [] rfl ⟨agg3 .same .same (.int (by dsimp only <;> omega)), .same, .same, trivial⟩
                      · exact absurd h45 h45x
                · have hm : [45].isPrefixOf (s.drop (nameLen s + 1)) = false := by
                    rw [pre1, List.eq_nil_of_length_eq_zero (l := s.drop (nameLen s + 1)) (by cases hq : s.drop (nameLen s + 1) with | nil => rfl | cons _ _ => rw [hq] at hne; simp at hne)]; rfl
                  conv => whnf
                  repeat (first | ((with_reducible first | apply ga | apply gb | apply gc | apply gd | apply ge | apply gf | apply gg | apply gh | apply gi | apply gj); conv => whnf) | (refine ⟨⟨rfl, rfl, nle rfl, nle rfl⟩, ?_⟩; conv => whnf) | fail)
                  have hm' : ¬ [45].isPrefixOf (s.drop (nameLen s + 1)) = true := by rw [hm]; simp
                  refine CallK.flat [] (f15 (s.drop (nameLen s + 1)) hr) ⟨.same, trivial⟩ rfl ?_
                  conv => whnf
                  repeat (first | ((with_reducible first | apply ga | apply gb | apply gc | apply gd | apply ge | apply gf | apply gg | apply gh | apply gi | apply gj); conv => whnf) | (refine ⟨⟨rfl, rfl, nle rfl, nle rfl⟩, ?_⟩; conv => whnf) | fail)
                  refine ⟨fun hn => ?_, fun hn => ?_⟩ <;> replace hn := nm hn <;> (try simp only [Int.toNat_zero] at hn) <;> (try simp only [Int.toNat_one] at hn)
                  · conv => whnf
                    repeat (first | ((with_reducible first | apply ga | apply gb | apply gc | apply gd | apply ge | apply gf | apply gg | apply gh | apply gi | apply gj); conv => whnf) | (refine ⟨⟨rfl, rfl, nle rfl, nle rfl⟩, ?_⟩; conv => whnf) | fail)
                    refine ⟨⟨by unfold inI64; omega⟩, ?_⟩
                    conv => whnf
                    repeat (first | ((with_reducible first | apply ga | apply gb | apply gc | apply gd | apply ge | apply gf | apply gg | apply gh | apply gi | apply gj); conv => whnf) | (refine ⟨⟨rfl, rfl, nle rfl, nle rfl⟩, ?_⟩; conv => whnf) | fail)
                    have hO : opnd s = (az, ((nameLen s : Int) + 1), (num (s.drop (nameLen s + 1))).2) := by rw [opnd, if_neg hA, if_neg h8', if_neg he, if_pos hS, if_neg hm', if_pos hn]
                    rw [hO]
                    exact done_tup [Arg.av az, i64 (((nameLen s : Int) + 1)), i64 ((num (s.drop (nameLen s + 1))).2)] [] rfl ⟨agg3 .same .same .same, .same, .same, trivial⟩
                  · conv => whnf
                    repeat (first | ((with_reducible first | apply ga | apply gb | apply gc | apply gd | apply ge | apply gf | apply gg | apply gh | apply gi | apply gj); conv => whnf) | (refine ⟨⟨rfl, rfl, nle rfl, nle rfl⟩, ?_⟩; conv => whnf) | fail)
                    refine ⟨⟨by omega, by omega⟩, ?_⟩
                    conv => whnf
                    repeat (first | ((with_reducible first | apply ga | apply gb | apply gc | apply gd | apply ge | apply gf | apply gg | apply gh | apply gi | apply gj); conv => whnf) | (refine ⟨⟨rfl, rfl, nle rfl, nle rfl⟩, ?_⟩; conv => whnf) | fail)
                    rw [show ((nameLen s : Int)).toNat = nameLen s from Int.toNat_natCast _]
                    refine ⟨fun h45x => ?_, fun h45x => ?_⟩ <;> replace h45x := nm h45x <;> (try simp only [Int.toNat_zero] at h45x) <;> (try simp only [Int.toNat_one] at h45x)
                    · conv => whnf
                      repeat (first | ((with_reducible first | apply ga | apply gb | apply gc | apply gd | apply ge | apply gf | apply gg | apply gh | apply gi | apply gj); conv => whnf) | (refine ⟨⟨rfl, rfl, nle rfl, nle rfl⟩, ?_⟩; conv => whnf) | fail)
                      refine ⟨⟨by unfold inI64; omega⟩, ?_⟩
                      conv => whnf
                      repeat (first | ((with_reducible first | apply ga | apply gb | apply gc | apply gd | apply ge | apply gf | apply gg | apply gh | apply gi | apply gj); conv => whnf) | (refine ⟨⟨rfl, rfl, nle rfl, nle rfl⟩, ?_⟩; conv => whnf) | fail)
                      have hO : opnd s = (⟨2, s.take (nameLen s), -(num (s.drop (nameLen s + 1))).1⟩, 0, 0) := by rw [opnd, if_neg hA, if_neg h8', if_neg he, if_pos hS, if_neg hm', if_neg (fun h => h hn), if_pos h45]
                      rw [hO]
                      exact done_tup [Arg.av ⟨2, s.take (nameLen s), -(num (s.drop (nameLen s + 1))).1⟩, i64 0, i64 0] [] rfl ⟨agg3 .same .same (.int (by dsimp only <;> omega)), .same, .same, trivial⟩
                    · exact absurd h45 h45x
            · have hS : ((s.getD (nameLen s) 0).toNat : Int) = 43 ∨ ((s.getD (nameLen s) 0).toNat : Int) = 45 := .inl h43
              conv => whnf
              repeat (first | ((with_reducible first | apply ga | apply gb | apply gc | apply gd | apply ge | apply gf | apply gg | apply gh | apply gi | apply gj); conv => whnf) | (refine ⟨⟨rfl, rfl, nle rfl, nle rfl⟩, ?_⟩; conv => whnf) | fail)
              refine ⟨⟨by unfold inI64; omega⟩, ?_⟩
              conv => whnf
              repeat (first | ((with_reducible first | apply ga | apply gb | apply gc | apply gd | apply ge | apply gf | apply gg | apply gh | apply gi | apply gj); conv => whnf) | (refine ⟨⟨rfl, rfl, nle rfl, nle rfl⟩, ?_⟩; conv => whnf) | fail)
              refine ⟨⟨by omega, by omega⟩, ?_⟩
              conv => whnf
              repeat (first | ((with_reducible first | apply ga | apply gb | apply gc | apply gd | apply ge | apply gf | apply gg | apply gh | apply gi | apply gj); conv => whnf) | (refine ⟨⟨rfl, rfl, nle rfl, nle rfl⟩, ?_⟩; conv => whnf) | fail)
              rw [hd]
              refine ⟨fun hne => ?_, fun hne => ?_⟩ <;> replace hne := nm hne <;> (try simp only [Int.toNat_zero] at hne) <;> (try simp only [Int.toNat_one] at hne)
              · conv => whnf
                repeat (first | ((with_reducible first | apply ga | apply gb | apply gc | apply gd | apply ge | apply gf | apply gg | apply gh | apply gi | apply gj); conv => whnf) | (refine ⟨⟨rfl, rfl, nle rfl, nle rfl⟩, ?_⟩; conv => whnf) | fail)
                refine ⟨⟨by omega, by cases hq : s.drop (nameLen s + 1) with | nil => exact absurd hq hne | cons _ _ => simp⟩, ?_⟩
                conv => whnf
                repeat (first | ((with_reducible first | apply ga | apply gb | apply gc | apply gd | apply ge | apply gf | apply gg | apply gh | apply gi | apply gj); conv => whnf) | (refine ⟨⟨rfl, rfl, nle rfl, nle rfl⟩, ?_⟩; conv => whnf) | fail)
                refine ⟨fun hm0 => ?_, fun hm0 => ?_⟩ <;> replace hm0 := nm hm0 <;> (try simp only [Int.toNat_zero] at hm0) <;> (try simp only [Int.toNat_one] at hm0)
                · have hm : [45].isPrefixOf (s.drop (nameLen s + 1)) = true := by
                    rw [pre1, decide_eq_true (by cases hq : s.drop (nameLen s + 1) with | nil => exact absurd hq hne | cons _ _ => simp), Bool.true_and]; exact beq_iff_eq.mpr hm0
                  conv => whnf
                  repeat (first | ((with_reducible first | apply ga | apply gb | apply gc | apply gd | apply ge | apply gf | apply gg | apply gh | apply gi | apply gj); conv => whnf) | (refine ⟨⟨rfl, rfl, nle rfl, nle rfl⟩, ?_⟩; conv => whnf) | fail)
                  refine ⟨⟨by unfold inI64; omega⟩, ?_⟩
                  conv => whnf
                  repeat (first | ((with_reducible first | apply ga | apply gb | apply gc | apply gd | apply ge | apply gf | apply gg | apply gh | apply gi | apply gj); conv => whnf) | (refine ⟨⟨rfl, rfl, nle rfl, nle rfl⟩, ?_⟩; conv => whnf) | fail)
                  have hO : opnd s = (az, ((nameLen s : Int) + 1), 5) := by rw [opnd, if_neg hA, if_neg h8', if_neg he, if_pos hS, if_pos hm]
                  rw [hO]
                  exact done_tup [Arg.av az, i64 (((nameLen s : Int) + 1)), i64 5] [] rfl ⟨agg3 .same .same .same, .same, .same, trivial⟩
                · have hm : [45].isPrefixOf (s.drop (nameLen s + 1)) = false := by
                    rw [pre1, show ((((s.drop (nameLen s + 1)).getD 0 0).toNat : Int) == ((45 : UInt8).toNat : Int)) = false from beq_eq_false_iff_ne.mpr hm0, Bool.and_false]
                  conv => whnf
                  repeat (first | ((with_reducible first | apply ga | apply gb | apply gc | apply gd | apply ge | apply gf | apply gg | apply gh | apply gi | apply gj); conv => whnf) | (refine ⟨⟨rfl, rfl, nle rfl, nle rfl⟩, ?_⟩; conv => whnf) | fail)
                  have hm' : ¬ [45].isPrefixOf (s.drop (nameLen s + 1)) = true := by rw [hm]; simp
                  refine CallK.flat [] (f15 (s.drop (nameLen s + 1)) hr) ⟨.same, trivial⟩ rfl ?_
                  conv => whnf
                  repeat (first | ((with_reducible first | apply ga | apply gb | apply gc | apply gd | apply ge | apply gf | apply gg | apply gh | apply gi | apply gj); conv => whnf) | (refine ⟨⟨rfl, rfl, nle rfl, nle rfl⟩, ?_⟩; conv => whnf) | fail)
                  refine ⟨fun hn => ?_, fun hn => ?_⟩ <;> replace hn := nm hn <;> (try simp only [Int.toNat_zero] at hn) <;> (try simp only [Int.toNat_one] at hn)
                  · conv => whnf
                    repeat (first | ((with_reducible first | apply ga | apply gb | apply gc | apply gd | apply ge | apply gf | apply gg | apply gh | apply gi | apply gj); conv => whnf) | (refine ⟨⟨rfl, rfl, nle rfl, nle rfl⟩, ?_⟩; conv => whnf) | fail)
                    refine ⟨⟨by unfold inI64; omega⟩, ?_⟩
                    conv => whnf
                    repeat (first | ((with_reducible first | apply ga | apply gb | apply gc | apply gd | apply ge | apply gf | apply gg | apply gh | apply gi | apply gj); conv => whnf) | (refine ⟨⟨rfl, rfl, nle rfl, nle rfl⟩, ?_⟩; conv => whnf) | fail)
                    have hO : opnd s = (az, ((nameLen s : Int) + 1), (num (s.drop (nameLen s + 1))).2) := by rw [opnd, if_neg hA, if_neg h8', if_neg he, if_pos hS, if_neg hm', if_pos hn]
                    rw [hO]
                    exact done_tup [Arg.av az, i64 (((nameLen s : Int) + 1)), i64 ((num (s.drop (nameLen s + 1))).2)] [] rfl ⟨agg3 .same .same .same, .same, .same, trivial⟩
                  · conv => whnf
                    repeat (first | ((with_reducible first | apply ga | apply gb | apply gc | apply gd | apply ge | apply gf | apply gg | apply gh | apply gi | apply gj); conv => whnf) | (refine ⟨⟨rfl, rfl, nle rfl, nle rfl⟩, ?_⟩; conv => whnf) | fail)
                    refine ⟨⟨by omega, by omega⟩, ?_⟩
                    conv => whnf
                    repeat (first | ((with_reducible first | apply ga | apply gb | apply gc | apply gd | apply ge | apply gf | apply gg | apply gh | apply gi | apply gj); conv => whnf) | (refine ⟨⟨rfl, rfl, nle rfl, nle rfl⟩, ?_⟩; conv => whnf) | fail)
                    rw [show ((nameLen s : Int)).toNat = nameLen s from Int.toNat_natCast _]
                    refine ⟨fun h45x => ?_, fun h45x => ?_⟩ <;> replace h45x := nm h45x <;> (try simp only [Int.toNat_zero] at h45x) <;> (try simp only [Int.toNat_one] at h45x)
                    · exfalso; omega
                    · conv => whnf
                      repeat (first | ((with_reducible first | apply ga | apply gb | apply gc | apply gd | apply ge | apply gf | apply gg | apply gh | apply gi | apply gj); conv => whnf) | (refine ⟨⟨rfl, rfl, nle rfl, nle rfl⟩, ?_⟩; conv => whnf) | fail)
                      have hO : opnd s = (⟨2, s.take (nameLen s), (num (s.drop (nameLen s + 1))).1⟩, 0, 0) := by rw [opnd, if_neg hA, if_neg h8', if_neg he, if_pos hS, if_neg hm', if_neg (fun h => h hn), if_neg (by omega)]
                      rw [hO]
                      exact done_tup [Arg.av ⟨2, s.take (nameLen s), (num (s.drop (nameLen s + 1))).1⟩, i64 0, i64 0] [] rfl ⟨agg3 .same .same (.int (by dsimp only <;> omega)), .same, .same, trivial⟩
              · have hm : [45].isPrefixOf (s.drop (nameLen s + 1)) = false := by
                  rw [pre1, List.eq_nil_of_length_eq_zero (l := s.drop (nameLen s + 1)) (by cases hq : s.drop (nameLen s + 1) with | nil => rfl | cons _ _ => rw [hq] at hne; simp at hne)]; rfl
                conv => whnf
                repeat (first | ((with_reducible first | apply ga | apply gb | apply gc | apply gd | apply ge | apply gf | apply gg | apply gh | apply gi | apply gj); conv => whnf) | (refine ⟨⟨rfl, rfl, nle rfl, nle rfl⟩, ?_⟩; conv => whnf) | fail)
                have hm' : ¬ [45].isPrefixOf (s.drop (nameLen s + 1)) = true := by rw [hm]; simp
                refine CallK.flat [] (f15 (s.drop (nameLen s + 1)) hr) ⟨.same, trivial⟩ rfl ?_
                conv => whnf
                repeat (first | ((with_reducible first | apply ga | apply gb | apply gc | apply gd | apply ge | apply gf | apply gg | apply gh | apply gi | apply gj); conv => whnf) | (refine ⟨⟨rfl, rfl, nle rfl, nle rfl⟩, ?_⟩; conv => whnf) | fail)
                refine ⟨fun hn => ?_, fun hn => ?_⟩ <;> replace hn := nm hn <;> (try simp only [Int.toNat_zero] at hn) <;> (try simp only [Int.toNat_one] at hn)
                · conv => whnf
                  repeat (first | ((with_reducible first | apply ga | apply gb | apply gc | apply gd | apply ge | apply gf | apply gg | apply gh | apply gi | apply gj); conv => whnf) | (refine ⟨⟨rfl, rfl, nle rfl, nle rfl⟩, ?_⟩; conv => whnf) | fail)
                  refine ⟨⟨by unfold inI64; omega⟩, ?_⟩
                  conv => whnf
                  repeat (first | ((with_reducible first | apply ga | apply gb | apply gc | apply gd | apply ge | apply gf | apply gg | apply gh | apply gi | apply gj); conv => whnf) | (refine ⟨⟨rfl, rfl, nle rfl, nle rfl⟩, ?_⟩; conv => whnf) | fail)
                  have hO : opnd s = (az, ((nameLen s : Int) + 1), (num (s.drop (nameLen s + 1))).2) := by rw [opnd, if_neg hA, if_neg h8', if_neg he, if_pos hS, if_neg hm', if_pos hn]
                  rw [hO]
                  exact done_tup [Arg.av az, i64 (((nameLen s : Int) + 1)), i64 ((num (s.drop (nameLen s + 1))).2)] [] rfl ⟨agg3 .same .same .same, .same, .same, trivial⟩
                · conv => whnf
                  repeat (first | ((with_reducible first | apply ga | apply gb | apply gc | apply gd | apply ge | apply gf | apply gg | apply gh | apply gi | apply gj); conv => whnf) | (refine ⟨⟨rfl, rfl, nle rfl, nle rfl⟩, ?_⟩; conv => whnf) | fail)
                  refine ⟨⟨by omega, by omega⟩, ?_⟩
                  conv => whnf
                  repeat (first | ((with_reducible first | apply ga | apply gb | apply gc | apply gd | apply ge | apply gf | apply gg | apply gh | apply gi | apply gj); conv => whnf) | (refine ⟨⟨rfl, rfl, nle rfl, nle rfl⟩, ?_⟩; conv => whnf) | fail)
                  rw [show ((nameLen s : Int)).toNat = nameLen s from Int.toNat_natCast _]
                  refine ⟨fun h45x => ?_, fun h45x => ?_⟩ <;> replace h45x := nm h45x <;> (try simp only [Int.toNat_zero] at h45x) <;> (try simp only [Int.toNat_one] at h45x)
                  · exfalso; omega
                  · conv => whnf
                    repeat (first | ((with_reducible first | apply ga | apply gb | apply gc | apply gd | apply ge | apply gf | apply gg | apply gh | apply gi | apply gj); conv => whnf) | (refine ⟨⟨rfl, rfl, nle rfl, nle rfl⟩, ?_⟩; conv => whnf) | fail)
                    have hO : opnd s = (⟨2, s.take (nameLen s), (num (s.drop (nameLen s + 1))).1⟩, 0, 0) := by rw [opnd, if_neg hA, if_neg h8', if_neg he, if_pos hS, if_neg hm', if_neg (fun h => h hn), if_neg (by omega)]
                    rw [hO]
                    exact done_tup [Arg.av ⟨2, s.take (nameLen s), (num (s.drop (nameLen s + 1))).1⟩, i64 0, i64 0] [] rfl ⟨agg3 .same .same (.int (by dsimp only <;> omega)), .same, .same, trivial⟩
  · have hA : (s == [] || !(letter (s.getD 0 0))) = true := by rw [h0]; rfl
    conv => whnf
    repeat (first | ((with_reducible first | apply ga | apply gb | apply gc | apply gd | apply ge | apply gf | apply gg | apply gh | apply gi | apply gj); conv => whnf) | (refine ⟨⟨rfl, rfl, nle rfl, nle rfl⟩, ?_⟩; conv => whnf) | fail)
    refine CallK.flat [] (f15 s hs) ⟨.same, trivial⟩ rfl ?_
    conv => whnf
    repeat (first | ((with_reducible first | apply ga | apply gb | apply gc | apply gd | apply ge | apply gf | apply gg | apply gh | apply gi | apply gj); conv => whnf) | (refine ⟨⟨rfl, rfl, nle rfl, nle rfl⟩, ?_⟩; conv => whnf) | fail)
    refine ⟨fun he => ?_, fun he => ?_⟩ <;> replace he := nm he <;> (try simp only [Int.toNat_zero] at he) <;> (try simp only [Int.toNat_one] at he)
    · conv => whnf
      repeat (first | ((with_reducible first | apply ga | apply gb | apply gc | apply gd | apply ge | apply gf | apply gg | apply gh | apply gi | apply gj); conv => whnf) | (refine ⟨⟨rfl, rfl, nle rfl, nle rfl⟩, ?_⟩; conv => whnf) | fail)
      have hO : opnd s = (az, 0, (num s).2) := by rw [opnd, if_pos hA, if_pos he]
      rw [hO]
      exact done_tup [Arg.av az, i64 0, i64 ((num s).2)] [] rfl ⟨agg3 .same .same .same, .same, .same, trivial⟩
    · conv => whnf
      repeat (first | ((with_reducible first | apply ga | apply gb | apply gc | apply gd | apply ge | apply gf | apply gg | apply gh | apply gi | apply gj); conv => whnf) | (refine ⟨⟨rfl, rfl, nle rfl, nle rfl⟩, ?_⟩; conv => whnf) | fail)
      have hO : opnd s = (⟨1, [], (num s).1⟩, 0, 0) := by rw [opnd, if_pos hA, if_neg (fun h => h he)]
      rw [hO]
      exact done_tup [Arg.av ⟨1, [], (num s).1⟩, i64 0, i64 0] [] rfl ⟨agg3 .same .same .same, .same, .same, trivial⟩
end Go.Proofs.YtdoeiccibhabcaaDoor
