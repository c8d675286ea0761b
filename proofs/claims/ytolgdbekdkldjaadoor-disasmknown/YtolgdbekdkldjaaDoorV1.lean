/- Part of the proof: what the functions that the law calls compute (1). -/
import Derived.Test.YtolgdbekdkldjaaDoorB
import Derived.Test.YtolgdbekdkldjaaDoorS
import Derived.Lib.ItoaLen
namespace Go.Proofs.YtolgdbekdkldjaaDoor
open Go Go.AM Go.RowKit
attribute [local irreducible] AWP CallK PureCall SubS HeapCall
def i64 (n : Int) : AV := .pv (.int .i64 n)
def u8 (n : Int) : AV := .pv (.int .u8 n)
def bb (b : Bool) : AV := .pv (.bool b)
def st (s : List UInt8) : AV := .pv (.str s)
/-- A test's outcome in other words. -/
class Nm (p : Prop) (q : outParam Prop) : Prop where
  out : p → q
theorem nm {p q : Prop} [Nm p q] (h : p) : q := Nm.out h
instance (priority := 10) {b : Bool} : Nm (b = true) (b = true) := ⟨id⟩
instance (priority := 10) {b : Bool} : Nm (b = false) (b = false) := ⟨id⟩
instance (priority := 2000) {b : Bool} {q : Prop} [h : Nm (b = false) q] : Nm (b = !true) q := ⟨h.out⟩
instance (priority := 2000) {b : Bool} {q : Prop} [h : Nm (b = true) q] : Nm (b = !false) q := ⟨h.out⟩
instance (priority := 1000) {b : Bool} {q : Prop} [h : Nm (b = false) q] : Nm ((!b) = true) q := ⟨fun e => h.out (by cases b <;> simp_all)⟩
instance (priority := 1000) {b : Bool} {q : Prop} [h : Nm (b = true) q] : Nm ((!b) = false) q := ⟨fun e => h.out (by cases b <;> simp_all)⟩
instance (priority := 500) {p : Prop} [Decidable p] : Nm (decide p = true) p := ⟨of_decide_eq_true⟩
instance (priority := 500) {p : Prop} [Decidable p] : Nm (decide p = false) (¬ p) := ⟨of_decide_eq_false⟩
instance (priority := 600) {a b : Int} [Decidable (a ≤ b)] : Nm (decide (a ≤ b) = false) (b < a) := ⟨fun e => Int.not_le.mp (of_decide_eq_false e)⟩
instance (priority := 600) {a b : Int} [Decidable (a < b)] : Nm (decide (a < b) = false) (b ≤ a) := ⟨fun e => Int.not_lt.mp (of_decide_eq_false e)⟩
instance (priority := 500) {α : Type} [BEq α] [LawfulBEq α] {a b : α} : Nm ((a == b) = true) (a = b) := ⟨eq_of_beq⟩
instance (priority := 500) {α : Type} [BEq α] [LawfulBEq α] {a b : α} : Nm ((a == b) = false) (¬ a = b) := ⟨fun e h => by subst h; simp at e⟩
instance (priority := 500) {α : Type} [BEq α] [LawfulBEq α] {a b : α} : Nm ((a != b) = true) (¬ a = b) := ⟨fun e h => by subst h; simp at e⟩
instance (priority := 500) {α : Type} [BEq α] [LawfulBEq α] {a b : α} : Nm ((a != b) = false) (a = b) := ⟨fun e => by simpa using e⟩
theorem ga {w : Bool} {A B : Prop} (h : A) : (w = w → A) ∧ (w = !w → B) := ⟨fun _ => h, fun e => absurd e (by cases w <;> decide)⟩
theorem gb {w : Bool} {A B : Prop} (h : B) : ((!w) = w → A) ∧ ((!w) = !w → B) := ⟨fun e => absurd e (by cases w <;> decide), fun _ => h⟩
theorem gc {A B : Prop} (h : B) : (true = false → A) ∧ (true = !false → B) := ⟨fun e => absurd e (by decide), fun _ => h⟩
theorem gd {A B : Prop} (h : B) : (false = true → A) ∧ (false = !true → B) := ⟨fun e => absurd e (by decide), fun _ => h⟩
theorem ge {A B : Prop} (h : A) : ((!true) = false → A) ∧ ((!true) = !false → B) := ⟨fun _ => h, fun e => absurd e (by decide)⟩
theorem gf {A B : Prop} (h : A) : ((!false) = true → A) ∧ ((!false) = !true → B) := ⟨fun _ => h, fun e => absurd e (by decide)⟩
theorem gg {A B : Prop} (h : A) : (true = true → A) ∧ (true = false → B) := ⟨fun _ => h, fun e => absurd e (by decide)⟩
theorem gh {A B : Prop} (h : B) : (false = true → A) ∧ (false = false → B) := ⟨fun e => absurd e (by decide), fun _ => h⟩
theorem gi {A B : Prop} (h : B) : ((!true) = true → A) ∧ ((!true) = false → B) := ⟨fun e => absurd e (by decide), fun _ => h⟩
theorem gj {A B : Prop} (h : A) : ((!false) = true → A) ∧ ((!false) = false → B) := ⟨fun _ => h, fun e => absurd e (by decide)⟩
theorem lib_call {P : Program} {f : FuncId} {args : List AV} {r : AV} (xs : Array Value) (y : Value) (hen : enters P f = true) (hx : ∀ w M (ys : Array Value), ArgsAre noNames w M args ys → ys = xs)
    (hc : ∀ w, (∀ g, P.globalNamed "internal/strconv.uint64pow10" = some g → Lib.TabIs P w "internal/strconv.uint64pow10" .u64 Lib.pow10Tab) → Calls P f xs w fun e w' => e = .returned y ∧ Below w.heap.size w w')
    (hr : ∀ φ w M, Ra φ w M r y) : PureCall P f args r := by
  unfold PureCall
  refine ⟨hen, fun w M ys _ henv ha => ?_⟩
  obtain rfl := hx w M ys ha
  refine (hc w fun g hg => (henv g hg).2.2).mono fun e w' hq => ?_
  obtain ⟨rfl, hb⟩ := hq
  exact ⟨y, rfl, hb.os, hb.tape, hb.output, hb.size, hb.block, hr _ _ _⟩
theorem args1 {w : World} {M : Blocks} {a : AV} {x : Value} {ys : Array Value} (h : ArgsAre noNames w M [a] ys) (hx : ∀ v, Ra noNames w M a v → v = x) : ys = #[x] := by
  obtain ⟨h1, h2⟩ := h
  have := hx _ (h2 0 (by simp))
  apply Array.ext
  · simpa using h1
  · intro i hi _
    have hi0 : i = 0 := by simp at h1; omega
    subst hi0
    simpa [Array.getD_eq_getD_getElem?, hi] using this
theorem args2 {w : World} {M : Blocks} {a b : AV} {x y : Value} {ys : Array Value} (h : ArgsAre noNames w M [a, b] ys) (hx : ∀ v, Ra noNames w M a v → v = x) (hy : ∀ v, Ra noNames w M b v → v = y) : ys = #[x, y] := by
  obtain ⟨h1, h2⟩ := h
  have e1 := hx _ (h2 0 (by simp))
  have e2 := hy _ (h2 1 (by simp))
  simp only [List.length_cons, List.length_nil] at h1
  apply Array.ext
  · simpa using h1
  · intro i hi _
    rcases (by omega : i = 0 ∨ i = 1) with rfl | rfl
    · simpa [Array.getD_eq_getD_getElem?, hi] using e1
    · simpa [Array.getD_eq_getD_getElem?, hi] using e2
theorem table0 : (Tryd.prog.globalNamed "internal/strconv.uint64pow10").isSome = true := by kernel_rfl
theorem table : ∃ g, Tryd.prog.globalNamed "internal/strconv.uint64pow10" = some g := Option.isSome_iff_exists.mp table0
theorem below_grow {w : World} {k : Nat} {os : Array Obj} : Below w.heap.size w (Sort.grow (w.drewN k) os) :=
  ⟨rfl, rfl, rfl, by simp [Sort.grow], fun i hi => by simp [Sort.grow, Array.getElem?_append, hi]⟩
theorem tk57 (n : Int) (h : inI64 n) : PureCall Tryd.prog 55 [i64 n] (st (Lib.itoa n)) := by
  refine lib_call #[.int .i64 n] (.string ⟨(Lib.itoa n).toArray⟩) (by kernel_rfl) (fun w M ys ha => args1 ha fun v hv => hv.int) (fun w ht => ?_) (fun φ w M => .pv _ _ (.str _))
  obtain ⟨g, hg⟩ := table
  refine (Tryd.strconv_Itoa n h.1 h.2 w (ht g hg)).mono fun e w' hq => ?_
  obtain ⟨rfl, k, os, rfl⟩ := hq
  exact ⟨rfl, below_grow⟩
/-- Before the first c, and behind it. -/
def bef (c : UInt8) (s : List UInt8) : List UInt8 := s.takeWhile (· != c)
def aft (c : UInt8) (s : List UInt8) : List UInt8 := (s.dropWhile (· != c)).drop 1
theorem index_bef (c : UInt8) : ∀ s : List UInt8, (Lib.indexByte s c = -1 ∧ bef c s = s ∧ aft c s = [] ∧ s.contains c = false) ∨
    (Lib.indexByte s c = (bef c s).length ∧ (bef c s).length < s.length ∧ s.take (bef c s).length = bef c s ∧ s.drop ((bef c s).length + 1) = aft c s ∧ s.contains c = true)
  | [] => .inl ⟨rfl, rfl, rfl, rfl⟩
  | b :: s => by
    by_cases hb : b = c
    · subst hb
      refine .inr ⟨?_, ?_, ?_, ?_, ?_⟩ <;> simp [bef, aft, Lib.indexByte]
    · have hne : (b == c) = false := by simpa using hb
      have hcb : (c == b) = false := by simpa using Ne.symm hb
      rcases index_bef c s with ⟨h1, h2, h3, h4⟩ | ⟨h1, h2, h3, h4, h5⟩
      · refine .inl ⟨?_, ?_, ?_, ?_⟩
        · simp [Lib.indexByte, h1, hb]
        · simp only [bef] at h2 ⊢; simp [hb, h2]
        · simp only [aft] at h3 ⊢; simpa [hb] using h3
        · simp only [List.contains_cons, hcb, h4, Bool.or_self]
      · have hbef : bef c (b :: s) = b :: bef c s := by simp [bef, hb]
        have haft : aft c (b :: s) = aft c s := by simp [aft, hb]
        refine .inr ⟨?_, ?_, ?_, ?_, ?_⟩
        · rw [hbef]
          have : ¬ (((bef c s).length : Int) = -1) := by omega
          simp [Lib.indexByte, h1, hb, this]
        · rw [hbef]; simpa using h2
        · rw [hbef]; simp [h3]
        · rw [hbef, haft]; simpa using h4
        · simp only [List.contains_cons, hcb, h5, Bool.or_true]
def ch (c : UInt8) : AV := u8 c.toNat
def letter (c : UInt8) : Bool := decide ((65 : Int) ≤ c.toNat) && decide ((c.toNat : Int) ≤ 90)
def digit (c : UInt8) : Bool := decide ((48 : Int) ≤ c.toNat) && decide ((c.toNat : Int) ≤ 57)
def inner (c : UInt8) : Bool := letter c || digit c || ((c.toNat : Int) == 95)
def blank (c : UInt8) : Bool := ((c.toNat : Int) == 32) || ((c.toNat : Int) == 9)
theorem tk37 (c : UInt8) : PureCall Tryd.prog 57 [ch c] (bb (letter c)) := by
  refine PureCall.run tab_ok mixed (by kernel_rfl) Tryd.func57 rfl rfl rfl ?_
  conv => whnf
  repeat (first | ((with_reducible first | apply ga | apply gb | apply gc | apply gd | apply ge | apply gf | apply gg | apply gh | apply gi | apply gj); conv => whnf) | (refine ⟨⟨rfl, rfl, nle rfl, nle rfl⟩, ?_⟩; conv => whnf) | fail)
  repeat' (first | ((with_reducible first | apply ga | apply gb | apply gc | apply gd | apply ge | apply gf | apply gg | apply gh | apply gi | apply gj); conv => whnf) | (refine ⟨fun hc => ?_, fun hc => ?_⟩ <;> (conv => whnf)) | fail)
  all_goals (refine done_bool _ _ rfl rfl ?_; simp_all [letter]; try omega)
theorem tk39 (c : UInt8) : PureCall Tryd.prog 63 [ch c] (bb (letter c)) := by
  refine PureCall.run tab_ok mixed (by kernel_rfl) Tryd.func63 rfl rfl rfl ?_
  conv => whnf
  repeat (first | ((with_reducible first | apply ga | apply gb | apply gc | apply gd | apply ge | apply gf | apply gg | apply gh | apply gi | apply gj); conv => whnf) | (refine ⟨⟨rfl, rfl, nle rfl, nle rfl⟩, ?_⟩; conv => whnf) | fail)
  repeat' (first | ((with_reducible first | apply ga | apply gb | apply gc | apply gd | apply ge | apply gf | apply gg | apply gh | apply gi | apply gj); conv => whnf) | (refine ⟨fun hc => ?_, fun hc => ?_⟩ <;> (conv => whnf)) | fail)
  all_goals (refine done_bool _ _ rfl rfl ?_; simp_all [letter]; try omega)
theorem tk52 (c : UInt8) : PureCall Tryd.prog 62 [ch c] (bb (inner c)) := by
  refine PureCall.run tab_ok mixed (by kernel_rfl) Tryd.func62 rfl rfl rfl ?_
  conv => whnf
  repeat (first | ((with_reducible first | apply ga | apply gb | apply gc | apply gd | apply ge | apply gf | apply gg | apply gh | apply gi | apply gj); conv => whnf) | (refine ⟨⟨rfl, rfl, nle rfl, nle rfl⟩, ?_⟩; conv => whnf) | fail)
  refine CallK.flat [] (tk37 c) ⟨.same, trivial⟩ rfl ?_
  conv => whnf
  repeat (first | ((with_reducible first | apply ga | apply gb | apply gc | apply gd | apply ge | apply gf | apply gg | apply gh | apply gi | apply gj); conv => whnf) | (refine ⟨⟨rfl, rfl, nle rfl, nle rfl⟩, ?_⟩; conv => whnf) | fail)
  repeat' (first | ((with_reducible first | apply ga | apply gb | apply gc | apply gd | apply ge | apply gf | apply gg | apply gh | apply gi | apply gj); conv => whnf) | (refine ⟨fun hc => ?_, fun hc => ?_⟩ <;> (conv => whnf)) | fail)
  all_goals (refine done_bool _ _ rfl rfl ?_; simp_all [inner, digit]; try omega)
theorem tk40 (c : UInt8) : PureCall Tryd.prog 64 [ch c] (bb (inner c)) := by
  refine PureCall.run tab_ok mixed (by kernel_rfl) Tryd.func64 rfl rfl rfl ?_
  conv => whnf
  repeat (first | ((with_reducible first | apply ga | apply gb | apply gc | apply gd | apply ge | apply gf | apply gg | apply gh | apply gi | apply gj); conv => whnf) | (refine ⟨⟨rfl, rfl, nle rfl, nle rfl⟩, ?_⟩; conv => whnf) | fail)
  refine CallK.flat [] (tk39 c) ⟨.same, trivial⟩ rfl ?_
  conv => whnf
  repeat (first | ((with_reducible first | apply ga | apply gb | apply gc | apply gd | apply ge | apply gf | apply gg | apply gh | apply gi | apply gj); conv => whnf) | (refine ⟨⟨rfl, rfl, nle rfl, nle rfl⟩, ?_⟩; conv => whnf) | fail)
  repeat' (first | ((with_reducible first | apply ga | apply gb | apply gc | apply gd | apply ge | apply gf | apply gg | apply gh | apply gi | apply gj); conv => whnf) | (refine ⟨fun hc => ?_, fun hc => ?_⟩ <;> (conv => whnf)) | fail)
  all_goals (refine done_bool _ _ rfl rfl ?_; simp_all [inner, digit]; try omega)
theorem prefix_eq {p s : List UInt8} : (s.take p.length == p) = p.isPrefixOf s := by
  rw [Bool.eq_iff_iff, List.isPrefixOf_iff_prefix, beq_iff_eq, List.prefix_iff_eq_take]
  exact eq_comm
theorem prefix_no {p s : List UInt8} (h : s.length < p.length) : p.isPrefixOf s = false := by
  rw [Bool.eq_false_iff, ne_eq, List.isPrefixOf_iff_prefix]
  intro hp
  have := hp.length_le
  omega
/-- What is behind the first bytes, where these are p. -/
def cutP (p s : List UInt8) : List UInt8 := if p.isPrefixOf s then s.drop p.length else s
theorem tw_lt {p : UInt8 → Bool} : ∀ {s : List UInt8} {i : Nat}, i < (s.takeWhile p).length → i < s.length ∧ p (s.getD i 0) = true := by
  intro s
  induction s with
  | nil => intro i h; simp at h
  | cons c s ih =>
    intro i h
    cases hp : p c with
    | false => simp [hp] at h
    | true =>
      simp only [List.takeWhile_cons, hp, if_true, List.length_cons] at h
      cases i with
      | zero => simp [hp]
      | succ i =>
        have := ih (i := i) (by omega)
        exact ⟨by simp; omega, by simpa using this.2⟩
theorem tw_end {p : UInt8 → Bool} : ∀ {s : List UInt8}, (s.takeWhile p).length < s.length → p (s.getD (s.takeWhile p).length 0) = false := by
  intro s
  induction s with
  | nil => intro h; simp at h
  | cons c s ih =>
    intro h
    cases hp : p c with
    | false => simp [hp]
    | true =>
      simp only [List.takeWhile_cons, hp, if_true, List.length_cons] at h ⊢
      have := ih (by omega)
      simpa using this
theorem tw_le {p : UInt8 → Bool} (s : List UInt8) : (s.takeWhile p).length ≤ s.length := (List.takeWhile_prefix p).length_le
/-- How many bytes at the beginning may stand in a name. -/
def nameLen (s : List UInt8) : Nat := (s.takeWhile inner).length
def B62 (s : List UInt8) : Prop := s.length < 2 ^ 62
theorem tk38 (s : List UInt8) (hs : B62 s) : PureCall Tryd.prog 58 [st s] (i64 (nameLen s)) := by
  unfold B62 at hs
  refine PureCall.run tab_ok mixed (by kernel_rfl) Tryd.func58 rfl rfl rfl ?_
  conv => whnf
  repeat (first | ((with_reducible first | apply ga | apply gb | apply gc | apply gd | apply ge | apply gf | apply gg | apply gh | apply gi | apply gj); conv => whnf) | (refine ⟨⟨rfl, rfl, nle rfl, nle rfl⟩, ?_⟩; conv => whnf) | fail)
  refine ex_loop tab_ok mixed (fun i => i ≤ nameLen s) (fun i : Nat => mkSt 17 [(0, st s), (3, i64 i)] []) (fun i => s.length - i) 0 (Nat.zero_le _) (SubS.mk [] rfl ⟨⟨_, rfl, .same⟩, ⟨_, rfl, .same⟩, trivial⟩ trivial) fun i hi => ?_
  have hm := tw_le (p := inner) s
  unfold nameLen at hi
  conv => whnf
  repeat (first | ((with_reducible first | apply ga | apply gb | apply gc | apply gd | apply ge | apply gf | apply gg | apply gh | apply gi | apply gj); conv => whnf) | (refine ⟨⟨rfl, rfl, nle rfl, nle rfl⟩, ?_⟩; conv => whnf) | fail)
  refine ⟨fun hc => ?_, fun hc => ?_⟩ <;> replace hc := nm hc <;> (try simp only [Int.toNat_zero] at hc) <;> (try simp only [Int.toNat_one] at hc)
  · conv => whnf
    repeat (first | ((with_reducible first | apply ga | apply gb | apply gc | apply gd | apply ge | apply gf | apply gg | apply gh | apply gi | apply gj); conv => whnf) | (refine ⟨⟨rfl, rfl, nle rfl, nle rfl⟩, ?_⟩; conv => whnf) | fail)
    refine ⟨⟨by omega, by omega⟩, ?_⟩
    conv => whnf
    repeat (first | ((with_reducible first | apply ga | apply gb | apply gc | apply gd | apply ge | apply gf | apply gg | apply gh | apply gi | apply gj); conv => whnf) | (refine ⟨⟨rfl, rfl, nle rfl, nle rfl⟩, ?_⟩; conv => whnf) | fail)
    refine CallK.flat [] (tk52 (s.getD i 0)) ⟨.same, trivial⟩ rfl ?_
    conv => whnf
    repeat (first | ((with_reducible first | apply ga | apply gb | apply gc | apply gd | apply ge | apply gf | apply gg | apply gh | apply gi | apply gj); conv => whnf) | (refine ⟨⟨rfl, rfl, nle rfl, nle rfl⟩, ?_⟩; conv => whnf) | fail)
    refine ⟨fun hb => ?_, fun hb => ?_⟩ <;> replace hb := nm hb <;> (try simp only [Int.toNat_zero] at hb) <;> (try simp only [Int.toNat_one] at hb)
    · conv => whnf
      repeat (first | ((with_reducible first | apply ga | apply gb | apply gc | apply gd | apply ge | apply gf | apply gg | apply gh | apply gi | apply gj); conv => whnf) | (refine ⟨⟨rfl, rfl, nle rfl, nle rfl⟩, ?_⟩; conv => whnf) | fail)
      have hlt : i < (s.takeWhile inner).length := by
        rcases Nat.lt_or_ge i (s.takeWhile inner).length with h | h
        · exact h
        · have he : i = (s.takeWhile inner).length := by omega
          have := tw_end (p := inner) (s := s) (by omega)
          rw [← he, hb] at this; cases this
      refine ⟨⟨by unfold inI64; omega⟩, ?_⟩
      conv => whnf
      repeat (first | ((with_reducible first | apply ga | apply gb | apply gc | apply gd | apply ge | apply gf | apply gg | apply gh | apply gi | apply gj); conv => whnf) | (refine ⟨⟨rfl, rfl, nle rfl, nle rfl⟩, ?_⟩; conv => whnf) | fail)
      exact ⟨i + 1, hlt, SubS.mk [] rfl ⟨⟨_, rfl, .same⟩, ⟨_, rfl, .same⟩, trivial⟩ trivial, by omega⟩
    · conv => whnf
      repeat (first | ((with_reducible first | apply ga | apply gb | apply gc | apply gd | apply ge | apply gf | apply gg | apply gh | apply gi | apply gj); conv => whnf) | (refine ⟨⟨rfl, rfl, nle rfl, nle rfl⟩, ?_⟩; conv => whnf) | fail)
      refine done_int _ _ _ rfl rfl ?_
      have : ¬ i < (s.takeWhile inner).length := fun h => by rw [(tw_lt h).2] at hb; cases hb
      unfold nameLen; omega
  · conv => whnf
    repeat (first | ((with_reducible first | apply ga | apply gb | apply gc | apply gd | apply ge | apply gf | apply gg | apply gh | apply gi | apply gj); conv => whnf) | (refine ⟨⟨rfl, rfl, nle rfl, nle rfl⟩, ?_⟩; conv => whnf) | fail)
    refine done_int _ _ _ rfl rfl ?_
    unfold nameLen; omega
def isName (s : List UInt8) : Bool := decide ((1 : Int) ≤ s.length) && decide ((s.length : Int) ≤ 8) && letter (s.getD 0 0) && ((nameLen s : Int) == s.length)
theorem tk16 (s : List UInt8) (hs : B62 s) : PureCall Tryd.prog 40 [st s] (bb (isName s)) := by
  refine PureCall.run tab_ok mixed (by kernel_rfl) Tryd.func40 rfl rfl rfl ?_
  conv => whnf
  repeat (first | ((with_reducible first | apply ga | apply gb | apply gc | apply gd | apply ge | apply gf | apply gg | apply gh | apply gi | apply gj); conv => whnf) | (refine ⟨⟨rfl, rfl, nle rfl, nle rfl⟩, ?_⟩; conv => whnf) | fail)
  refine ⟨fun hc => ?_, fun hc => ?_⟩ <;> replace hc := nm hc <;> (try simp only [Int.toNat_zero] at hc) <;> (try simp only [Int.toNat_one] at hc)
  · conv => whnf
    repeat (first | ((with_reducible first | apply ga | apply gb | apply gc | apply gd | apply ge | apply gf | apply gg | apply gh | apply gi | apply gj); conv => whnf) | (refine ⟨⟨rfl, rfl, nle rfl, nle rfl⟩, ?_⟩; conv => whnf) | fail)
    refine ⟨fun h2 => ?_, fun h2 => ?_⟩ <;> replace h2 := nm h2 <;> (try simp only [Int.toNat_zero] at h2) <;> (try simp only [Int.toNat_one] at h2)
    · conv => whnf
      repeat (first | ((with_reducible first | apply ga | apply gb | apply gc | apply gd | apply ge | apply gf | apply gg | apply gh | apply gi | apply gj); conv => whnf) | (refine ⟨⟨rfl, rfl, nle rfl, nle rfl⟩, ?_⟩; conv => whnf) | fail)
      refine ⟨⟨by omega, by omega⟩, ?_⟩
      conv => whnf
      repeat (first | ((with_reducible first | apply ga | apply gb | apply gc | apply gd | apply ge | apply gf | apply gg | apply gh | apply gi | apply gj); conv => whnf) | (refine ⟨⟨rfl, rfl, nle rfl, nle rfl⟩, ?_⟩; conv => whnf) | fail)
      refine CallK.flat [] (tk37 (s.getD 0 0)) ⟨.same, trivial⟩ rfl ?_
      conv => whnf
      repeat (first | ((with_reducible first | apply ga | apply gb | apply gc | apply gd | apply ge | apply gf | apply gg | apply gh | apply gi | apply gj); conv => whnf) | (refine ⟨⟨rfl, rfl, nle rfl, nle rfl⟩, ?_⟩; conv => whnf) | fail)
      refine ⟨fun h3 => ?_, fun h3 => ?_⟩ <;> replace h3 := nm h3 <;> (try simp only [Int.toNat_zero] at h3) <;> (try simp only [Int.toNat_one] at h3)
      · conv => whnf
        repeat (first | ((with_reducible first | apply ga | apply gb | apply gc | apply gd | apply ge | apply gf | apply gg | apply gh | apply gi | apply gj); conv => whnf) | (refine ⟨⟨rfl, rfl, nle rfl, nle rfl⟩, ?_⟩; conv => whnf) | fail)
        refine CallK.flat [] (tk38 s hs) ⟨.same, trivial⟩ rfl ?_
        conv => whnf
        repeat (first | ((with_reducible first | apply ga | apply gb | apply gc | apply gd | apply ge | apply gf | apply gg | apply gh | apply gi | apply gj); conv => whnf) | (refine ⟨⟨rfl, rfl, nle rfl, nle rfl⟩, ?_⟩; conv => whnf) | fail)
        refine done_bool _ _ rfl rfl ?_
        simp only [isName, h3, decide_eq_true hc, decide_eq_true h2, Bool.true_and]
      · conv => whnf
        repeat (first | ((with_reducible first | apply ga | apply gb | apply gc | apply gd | apply ge | apply gf | apply gg | apply gh | apply gi | apply gj); conv => whnf) | (refine ⟨⟨rfl, rfl, nle rfl, nle rfl⟩, ?_⟩; conv => whnf) | fail)
        refine done_bool _ _ rfl rfl ?_
        simp only [isName, h3, Bool.and_false, Bool.false_and]
    · conv => whnf
      repeat (first | ((with_reducible first | apply ga | apply gb | apply gc | apply gd | apply ge | apply gf | apply gg | apply gh | apply gi | apply gj); conv => whnf) | (refine ⟨⟨rfl, rfl, nle rfl, nle rfl⟩, ?_⟩; conv => whnf) | fail)
      refine done_bool _ _ rfl rfl ?_
      simp [isName]; omega
  · conv => whnf
    repeat (first | ((with_reducible first | apply ga | apply gb | apply gc | apply gd | apply ge | apply gf | apply gg | apply gh | apply gi | apply gj); conv => whnf) | (refine ⟨⟨rfl, rfl, nle rfl, nle rfl⟩, ?_⟩; conv => whnf) | fail)
    refine done_bool _ _ rfl rfl ?_
    simp [isName]; omega
theorem tk17 (s : List UInt8) (hs : B62 s) : PureCall Tryd.prog 59 [st s] (bb (isName s)) := by
  unfold B62 at hs
  refine PureCall.run tab_ok mixed (by kernel_rfl) Tryd.func59 rfl rfl rfl ?_
  conv => whnf
  repeat (first | ((with_reducible first | apply ga | apply gb | apply gc | apply gd | apply ge | apply gf | apply gg | apply gh | apply gi | apply gj); conv => whnf) | (refine ⟨⟨rfl, rfl, nle rfl, nle rfl⟩, ?_⟩; conv => whnf) | fail)
  refine ⟨fun hc => ?_, fun hc => ?_⟩ <;> replace hc := nm hc <;> (try simp only [Int.toNat_zero] at hc) <;> (try simp only [Int.toNat_one] at hc)
  · conv => whnf
    repeat (first | ((with_reducible first | apply ga | apply gb | apply gc | apply gd | apply ge | apply gf | apply gg | apply gh | apply gi | apply gj); conv => whnf) | (refine ⟨⟨rfl, rfl, nle rfl, nle rfl⟩, ?_⟩; conv => whnf) | fail)
    refine ⟨fun h2 => ?_, fun h2 => ?_⟩ <;> replace h2 := nm h2 <;> (try simp only [Int.toNat_zero] at h2) <;> (try simp only [Int.toNat_one] at h2)
    · conv => whnf
      repeat (first | ((with_reducible first | apply ga | apply gb | apply gc | apply gd | apply ge | apply gf | apply gg | apply gh | apply gi | apply gj); conv => whnf) | (refine ⟨⟨rfl, rfl, nle rfl, nle rfl⟩, ?_⟩; conv => whnf) | fail)
      refine ⟨⟨by omega, by omega⟩, ?_⟩
      conv => whnf
      repeat (first | ((with_reducible first | apply ga | apply gb | apply gc | apply gd | apply ge | apply gf | apply gg | apply gh | apply gi | apply gj); conv => whnf) | (refine ⟨⟨rfl, rfl, nle rfl, nle rfl⟩, ?_⟩; conv => whnf) | fail)
      refine CallK.flat [] (tk39 (s.getD 0 0)) ⟨.same, trivial⟩ rfl ?_
      conv => whnf
      repeat (first | ((with_reducible first | apply ga | apply gb | apply gc | apply gd | apply ge | apply gf | apply gg | apply gh | apply gi | apply gj); conv => whnf) | (refine ⟨⟨rfl, rfl, nle rfl, nle rfl⟩, ?_⟩; conv => whnf) | fail)
      refine ⟨fun h3 => ?_, fun h3 => ?_⟩ <;> replace h3 := nm h3 <;> (try simp only [Int.toNat_zero] at h3) <;> (try simp only [Int.toNat_one] at h3)
      · conv => whnf
        repeat (first | ((with_reducible first | apply ga | apply gb | apply gc | apply gd | apply ge | apply gf | apply gg | apply gh | apply gi | apply gj); conv => whnf) | (refine ⟨⟨rfl, rfl, nle rfl, nle rfl⟩, ?_⟩; conv => whnf) | fail)
        refine done_bool _ _ rfl rfl ?_
        simp only [isName, h3, Bool.and_false, Bool.false_and]
      · conv => whnf
        repeat (first | ((with_reducible first | apply ga | apply gb | apply gc | apply gd | apply ge | apply gf | apply gg | apply gh | apply gi | apply gj); conv => whnf) | (refine ⟨⟨rfl, rfl, nle rfl, nle rfl⟩, ?_⟩; conv => whnf) | fail)
        refine ex_loop tab_ok mixed (fun i => i ≤ nameLen s) (fun i : Nat => mkSt 29 [(0, st s), (3, i64 i)] []) (fun i => s.length - i) 0 (Nat.zero_le _) (SubS.mk [] rfl ⟨⟨_, rfl, .same⟩, ⟨_, rfl, .same⟩, trivial⟩ trivial) fun i hi => ?_
        have hm := tw_le (p := inner) s
        unfold nameLen at hi
        conv => whnf
        repeat (first | ((with_reducible first | apply ga | apply gb | apply gc | apply gd | apply ge | apply gf | apply gg | apply gh | apply gi | apply gj); conv => whnf) | (refine ⟨⟨rfl, rfl, nle rfl, nle rfl⟩, ?_⟩; conv => whnf) | fail)
        refine ⟨fun h4 => ?_, fun h4 => ?_⟩ <;> replace h4 := nm h4 <;> (try simp only [Int.toNat_zero] at h4) <;> (try simp only [Int.toNat_one] at h4)
        · conv => whnf
          repeat (first | ((with_reducible first | apply ga | apply gb | apply gc | apply gd | apply ge | apply gf | apply gg | apply gh | apply gi | apply gj); conv => whnf) | (refine ⟨⟨rfl, rfl, nle rfl, nle rfl⟩, ?_⟩; conv => whnf) | fail)
          refine ⟨⟨by omega, by omega⟩, ?_⟩
          conv => whnf
          repeat (first | ((with_reducible first | apply ga | apply gb | apply gc | apply gd | apply ge | apply gf | apply gg | apply gh | apply gi | apply gj); conv => whnf) | (refine ⟨⟨rfl, rfl, nle rfl, nle rfl⟩, ?_⟩; conv => whnf) | fail)
          refine CallK.flat [] (tk40 (s.getD i 0)) ⟨.same, trivial⟩ rfl ?_
          conv => whnf
          repeat (first | ((with_reducible first | apply ga | apply gb | apply gc | apply gd | apply ge | apply gf | apply gg | apply gh | apply gi | apply gj); conv => whnf) | (refine ⟨⟨rfl, rfl, nle rfl, nle rfl⟩, ?_⟩; conv => whnf) | fail)
          refine ⟨fun hb => ?_, fun hb => ?_⟩ <;> replace hb := nm hb <;> (try simp only [Int.toNat_zero] at hb) <;> (try simp only [Int.toNat_one] at hb)
          · conv => whnf
            repeat (first | ((with_reducible first | apply ga | apply gb | apply gc | apply gd | apply ge | apply gf | apply gg | apply gh | apply gi | apply gj); conv => whnf) | (refine ⟨⟨rfl, rfl, nle rfl, nle rfl⟩, ?_⟩; conv => whnf) | fail)
            refine done_bool _ _ rfl rfl ?_
            have : ¬ i < (s.takeWhile inner).length := fun h => by rw [(tw_lt h).2] at hb; cases hb
            have : ((nameLen s : Int) == s.length) = false := by simp [nameLen]; omega
            simp only [isName, this, Bool.and_false]
          · conv => whnf
            repeat (first | ((with_reducible first | apply ga | apply gb | apply gc | apply gd | apply ge | apply gf | apply gg | apply gh | apply gi | apply gj); conv => whnf) | (refine ⟨⟨rfl, rfl, nle rfl, nle rfl⟩, ?_⟩; conv => whnf) | fail)
            have hlt : i < (s.takeWhile inner).length := by
              rcases Nat.lt_or_ge i (s.takeWhile inner).length with h | h
              · exact h
              · have he : i = (s.takeWhile inner).length := by omega
                have := tw_end (p := inner) (s := s) (by omega)
                rw [← he, hb] at this; cases this
            refine ⟨⟨by unfold inI64; omega⟩, ?_⟩
            conv => whnf
            repeat (first | ((with_reducible first | apply ga | apply gb | apply gc | apply gd | apply ge | apply gf | apply gg | apply gh | apply gi | apply gj); conv => whnf) | (refine ⟨⟨rfl, rfl, nle rfl, nle rfl⟩, ?_⟩; conv => whnf) | fail)
            exact ⟨i + 1, hlt, SubS.mk [] rfl ⟨⟨_, rfl, .same⟩, ⟨_, rfl, .same⟩, trivial⟩ trivial, by omega⟩
        · conv => whnf
          repeat (first | ((with_reducible first | apply ga | apply gb | apply gc | apply gd | apply ge | apply gf | apply gg | apply gh | apply gi | apply gj); conv => whnf) | (refine ⟨⟨rfl, rfl, nle rfl, nle rfl⟩, ?_⟩; conv => whnf) | fail)
          refine done_bool _ _ rfl rfl ?_
          have : ((nameLen s : Int) == s.length) = true := by simp [nameLen]; omega
          simp only [isName, this, h3, decide_eq_true hc, decide_eq_true h2, Bool.true_and]
    · conv => whnf
      repeat (first | ((with_reducible first | apply ga | apply gb | apply gc | apply gd | apply ge | apply gf | apply gg | apply gh | apply gi | apply gj); conv => whnf) | (refine ⟨⟨rfl, rfl, nle rfl, nle rfl⟩, ?_⟩; conv => whnf) | fail)
      refine done_bool _ _ rfl rfl ?_
      simp [isName]; omega
  · conv => whnf
    repeat (first | ((with_reducible first | apply ga | apply gb | apply gc | apply gd | apply ge | apply gf | apply gg | apply gh | apply gi | apply gj); conv => whnf) | (refine ⟨⟨rfl, rfl, nle rfl, nle rfl⟩, ?_⟩; conv => whnf) | fail)
    refine done_bool _ _ rfl rfl ?_
    simp [isName]; omega
/-- The value of digits to a base, from n on. -/
def val (base : Int) : Int → List UInt8 → Option Int
  | n, [] => some n
  | n, c :: s => if 48 ≤ (c.toNat : Int) ∧ (c.toNat : Int) - 48 < base then val base (min (n * base + ((c.toNat : Int) - 48)) 65536) s else none
theorem getD_drop {s : List UInt8} {i : Nat} (h : i < s.length) : s.drop i = s.getD i 0 :: s.drop (i + 1) := by
  rw [List.drop_eq_getElem_cons h]; simp [h]
theorem val_some {base : Int} (hb : 0 ≤ base) : ∀ {s : List UInt8} {n m : Int}, 0 ≤ n ∧ n ≤ 65536 → val base n s = some m → 0 ≤ m ∧ m ≤ 65536 := by
  intro s
  induction s with
  | nil => intro n m h e; simp only [val, Option.some.injEq] at e; omega
  | cons c s ih =>
    intro n m h e
    simp only [val] at e
    split at e
    · rename_i hc
      have := Int.mul_nonneg h.1 hb
      exact ih (by omega) e
    · cases e
def valT (o : Option Int) (ne : Bool) : AV := match o with | none => tupV [i64 0, bb false] | some n => tupV [i64 n, bb ne]
def valN (base : Int) (s : List UInt8) : Option Int := if s == [] then none else val base 0 s
/-- A number. -/
def numR (neg : Bool) (v : Option Int) : Int × Int :=
  match v with
  | none => (0, 5)
  | some n => if neg && n == 0 then (0, 5) else if 65535 < n then (0, 3) else if neg then (-n, 0) else (n, 0)
def numV (r : List UInt8) : Option Int := if [48, 111].isPrefixOf r then valN 8 (cutP [48, 111] r) else if r == [48] || !([48].isPrefixOf r) then valN 10 r else none
def num (s : List UInt8) : Int × Int := numR ([45].isPrefixOf s) (numV (cutP [45] s))
theorem cutP_le (p s : List UInt8) : (cutP p s).length ≤ s.length := by unfold cutP; split <;> simp
def numT (x : Int × Int) : AV := tupV [i64 x.1, i64 x.2]
theorem valT_eq (base : Int) (s : List UInt8) : valT (val base 0 s) (!(s == [])) = valT (valN base s) true := by
  cases s with
  | nil => rfl
  | cons c s =>
    have : valN base (c :: s) = val base 0 (c :: s) := rfl
    rw [this]
    cases val base 0 (c :: s) <;> rfl
theorem valN_some {base : Int} (hb : base = 8 ∨ base = 10) {s : List UInt8} {n : Int} (h : valN base s = some n) : 0 ≤ n ∧ n ≤ 65536 := by
  unfold valN at h
  split at h
  · cases h
  · exact val_some (by omega) (by omega) h
theorem nat_beq (c : UInt8) (k : UInt8) : (((c.toNat : Int) == (k.toNat : Int)) : Bool) = (c == k) := by
  rw [Bool.eq_iff_iff, beq_iff_eq, beq_iff_eq]
  constructor
  · intro h; exact UInt8.toNat_inj.mp (by omega)
  · rintro rfl; rfl
theorem pre1 (k : UInt8) (s : List UInt8) : [k].isPrefixOf s = (decide ((0 : Int) < s.length) && ((s.getD 0 0).toNat : Int) == k.toNat) := by
  cases s with
  | nil => rfl
  | cons c s =>
    rw [nat_beq]
    have : decide ((0 : Int) < ((c :: s).length : Nat)) = true := by simp
    rw [this]
    simp only [List.isPrefixOf, Bool.and_true, Bool.true_and, List.getD_cons_zero]
    exact Bool.beq_comm
theorem numV_eq (r : List UInt8) : numV r = if decide ((1 : Int) < r.length) && ((r.getD 0 0).toNat : Int) == 48 then (if ((r.getD 1 0).toNat : Int) == 111 then valN 8 (r.drop 2) else none) else valN 10 r := by
  have e48 : ∀ c : UInt8, (((c.toNat : Int) == 48) : Bool) = (c == 48) := fun c => nat_beq c 48
  have e111 : ∀ c : UInt8, (((c.toNat : Int) == 111) : Bool) = (c == 111) := fun c => nat_beq c 111
  simp only [e48, e111]
  match r with
  | [] => rfl
  | [a] =>
    have h1 : decide ((1 : Int) < ([a] : List UInt8).length) = false := by simp
    rw [h1]
    simp only [Bool.false_and, Bool.false_eq_true, if_false]
    by_cases ha : a = 48
    · subst ha; rfl
    · have : (([a] : List UInt8) == [48] || !([48].isPrefixOf [a])) = true := by simp [List.isPrefixOf, Ne.symm ha]
      have h2 : ([48, 111] : List UInt8).isPrefixOf [a] = false := by simp [List.isPrefixOf]
      simp only [numV, h2, this, if_true, Bool.false_eq_true, if_false]
  | a :: b :: r =>
    have h1 : decide ((1 : Int) < ((a :: b :: r : List UInt8).length : Nat)) = true := by simp; omega
    rw [h1]
    by_cases ha : a = 48
    · subst ha
      by_cases hb : b = 111
      · subst hb; simp [numV, cutP]
      · have h2 : ([48, 111] : List UInt8).isPrefixOf (48 :: b :: r) = false := by simp [List.isPrefixOf, Ne.symm hb]
        have h3 : (((48 : UInt8) :: b :: r) == [48] || !([48].isPrefixOf ((48 : UInt8) :: b :: r))) = false := by simp [List.isPrefixOf]
        simp only [numV, h2, h3]
        simp [hb]
    · have h2 : ([48, 111] : List UInt8).isPrefixOf (a :: b :: r) = false := by simp [List.isPrefixOf, Ne.symm ha]
      have h3 : ((a :: b :: r) == [48] || !([48].isPrefixOf (a :: b :: r))) = true := by simp [List.isPrefixOf, Ne.symm ha]
      simp only [numV, h2, h3]
      simp [ha]
structure Arg where
  k : Int
  nm : List UInt8
  v : Int
def Arg.av (a : Arg) : AV := .agg 3 (getL [u8 a.k, st a.nm, i64 a.v])
def az : Arg := ⟨0, [], 0⟩
def opT (x : Arg × Int × Int) : AV := tupV [x.1.av, i64 x.2.1, i64 x.2.2]
/-- An operand. -/
def opnd (s : List UInt8) : Arg × Int × Int :=
  if s == [] || !(letter (s.getD 0 0)) then (if (num s).2 ≠ 0 then (az, 0, (num s).2) else (⟨1, [], (num s).1⟩, 0, 0))
  else if 8 < (nameLen s : Int) then (az, 0, 5)
  else if (nameLen s : Int) = s.length then (⟨2, s.take (nameLen s), 0⟩, 0, 0)
  else if ((s.getD (nameLen s) 0).toNat : Int) = 43 ∨ ((s.getD (nameLen s) 0).toNat : Int) = 45 then
    if [45].isPrefixOf (s.drop (nameLen s + 1)) then (az, nameLen s + 1, 5)
    else if (num (s.drop (nameLen s + 1))).2 ≠ 0 then (az, nameLen s + 1, (num (s.drop (nameLen s + 1))).2)
    else (⟨2, s.take (nameLen s), if ((s.getD (nameLen s) 0).toNat : Int) = 45 then -(num (s.drop (nameLen s + 1))).1 else (num (s.drop (nameLen s + 1))).1⟩, 0, 0)
  else (az, nameLen s, 5)
theorem num_bounds (s : List UInt8) : -65535 ≤ (num s).1 ∧ (num s).1 ≤ 65535 := by
  have key : ∀ v : Option Int, (∀ n, v = some n → 0 ≤ n ∧ n ≤ 65536) → ∀ b, -65535 ≤ (numR b v).1 ∧ (numR b v).1 ≤ 65535 := by
    intro v hv b
    unfold numR
    split
    · simp
    · rename_i n
      have := hv n rfl
      split
      · simp
      · split
        · simp
        · split <;> simp only <;> omega
  refine key _ (fun n hn => ?_) _
  unfold numV at hn
  split at hn
  · exact valN_some (.inl rfl) hn
  · split at hn
    · exact valN_some (.inr rfl) hn
    · cases hn
theorem agg3 {H : Heap} {B : List Nat} {U : List (Nat × Nat)} {f g : Nat → AV} (h0 : VLe H B U (f 0) (g 0)) (h1 : VLe H B U (f 1) (g 1)) (h2 : VLe H B U (f 2) (g 2)) : VLe H B U (.agg 3 f) (.agg 3 g) :=
  .agg _ _ _ fun i hi => match i, hi with
    | 0, _ => h0
    | 1, _ => h1
    | 2, _ => h2
theorem empty_beq {s : List UInt8} : (s == []) = decide (¬ 0 < s.length) := by cases s <;> simp
theorem ole3 {H : Heap} {B : List Nat} {U : List (Nat × Nat)} {o o' : AO} (hE : o'.E = o.E) (hg : o'.gen = o.gen) (h3 : o.sz = 3) (hs : o'.sz = 3) (hn : o.n = 1) (hn' : o'.n = 1) (h0 : VLe H B U (o.f 0 0) (o'.f 0 0)) (h1 : VLe H B U (o.f 0 1) (o'.f 0 1)) (h2 : VLe H B U (o.f 0 2) (o'.f 0 2)) : OLe H B U o o' := by
  refine ⟨hE, hg, by omega, by omega, fun i j hi hj => ?_⟩
  obtain rfl : i = 0 := by omega
  rcases (by omega : j = 0 ∨ j = 1 ∨ j = 2) with rfl | rfl | rfl
  · exact h0
  · exact h1
  · exact h2
def argO (a : Arg) : AO := ⟨25, 0, 3, 1, fun _ j => getL [u8 a.k, st a.nm, i64 a.v] j⟩
def cutT (c : UInt8) (s : List UInt8) : AV := tupV [st (bef c s), st (aft c s), bb (s.contains c)]
/-- The fields of a statement, with their offsets: o is where s begins, cur the word before it. -/
def flds : Nat → List UInt8 → List UInt8 → List (Nat × List UInt8)
  | o, cur, [] => if cur == [] then [] else [(o - cur.length, cur)]
  | o, cur, c :: s => if blank c then (if cur == [] then flds (o + 1) [] s else (o - cur.length, cur) :: flds (o + 1) [] s) else flds (o + 1) (cur ++ [c]) s
def word (s : List UInt8) : List UInt8 := s.takeWhile (fun c => !blank c)
theorem flds_word : ∀ (s : List UInt8) (o : Nat) (cur : List UInt8), flds o cur s = flds (o + (word s).length) (cur ++ word s) (s.drop (word s).length)
  | [], o, cur => by simp [word]
  | c :: s, o, cur => by
    cases hb : blank c with
    | true => simp [word, hb]
    | false =>
      have hw : word (c :: s) = c :: word s := by simp [word, hb]
      rw [hw, List.length_cons, List.drop_succ_cons]
      have : flds o cur (c :: s) = flds (o + 1) (cur ++ [c]) s := by simp [flds, hb]
      rw [this, flds_word s]
      congr 1
      · omega
      · simp
/-- From i on. -/
def fl (s : List UInt8) (i : Nat) : List (Nat × List UInt8) := flds i [] (s.drop i)
theorem fl_end {s : List UInt8} {i : Nat} (h : s.length ≤ i) : fl s i = [] := by unfold fl; rw [List.drop_eq_nil_of_le h]; rfl
theorem fl_step {s : List UInt8} {i k : Nat} (hi : i < s.length) (hk : k = i + (word (s.drop i)).length) :
    fl s i = (if i < k then [(i, (s.take k).drop i)] else []) ++ fl s (k + 1) := by
  have hw : (s.drop i).take (word (s.drop i)).length = word (s.drop i) := (List.prefix_iff_eq_take.mp (List.takeWhile_prefix _)).symm
  have hsub : (s.take k).drop i = word (s.drop i) := by
    rw [List.drop_take, show k - i = (word (s.drop i)).length by omega, hw]
  have hlen : (word (s.drop i)).length ≤ s.length - i := by have := tw_le (p := fun c => !blank c) (s.drop i); simpa [word] using this
  unfold fl
  rw [flds_word (s.drop i) i [], List.nil_append, List.drop_drop, hsub, show i + (word (s.drop i)).length = k by omega]
  by_cases hkl : k < s.length
  · rw [getD_drop hkl]
    have hbl : blank (s.getD k 0) = true := by
      have := tw_end (p := fun c => !blank c) (s := s.drop i) (by show (word (s.drop i)).length < _; simp; omega)
      simp only [Bool.not_eq_false'] at this
      rw [show (s.drop i).getD ((s.drop i).takeWhile (fun c => !blank c)).length 0 = s.getD k 0 by
        rw [List.getD_eq_getElem?_getD, List.getElem?_drop, List.getD_eq_getElem?_getD]; subst hk; rfl] at this
      exact this
    by_cases hik : i < k
    · have hne : (word (s.drop i) == []) = false := by
        cases hq : word (s.drop i) with
        | nil => rw [hq] at hk; simp at hk; omega
        | cons _ _ => rfl
      simp only [flds, hbl, if_true, hne, if_pos hik, Bool.false_eq_true, if_false]
      rw [show k - (word (s.drop i)).length = i by omega]
      rfl
    · have hne : word (s.drop i) = [] := List.eq_nil_of_length_eq_zero (by omega)
      simp only [flds, hbl, if_true, hne, if_neg hik, List.nil_append]
      rfl
  · rw [show s.drop k = [] from List.drop_eq_nil_of_le (by omega), show s.drop (k + 1) = [] from List.drop_eq_nil_of_le (by omega)]
    by_cases hik : i < k
    · have hne : (word (s.drop i) == []) = false := by
        cases hq : word (s.drop i) with
        | nil => rw [hq] at hk; simp at hk; omega
        | cons _ _ => rfl
      simp only [flds, hne, if_pos hik, Bool.false_eq_true, if_false]
      rw [show k - (word (s.drop i)).length = i by omega]
      rfl
    · have hne : word (s.drop i) = [] := List.eq_nil_of_length_eq_zero (by omega)
      simp only [flds, hne, if_neg hik, List.nil_append]
      rfl
def logF (l : List (Nat × List UInt8)) : List (List AV) := l.map fun p => [i64 p.1, st p.2]
theorem logF_app (l m : List (Nat × List UInt8)) : logF (l ++ m) = logF l ++ logF m := by simp [logF]
theorem logF_prefix {l m : List (Nat × List UInt8)} (h : l <+: m) : logF l <+: logF m := List.IsPrefix.map _ h
def yl (l : Nat) : AV := .func (.yield l) 0 (fun _ => .nilS) 0 (fun _ => .nilS)
theorem yl_le {H : Heap} {B : List Nat} {U : List (Nat × Nat)} {l : Nat} : VLe H B U (yl l) (yl l) := .func _ _ _ _ _ _ _ (fun i hi => absurd hi (Nat.not_lt_zero i)) (fun i hi => absurd hi (Nat.not_lt_zero i))
theorem word_in {s : List UInt8} {i j : Nat} (h1 : i ≤ j) (h2 : j < i + (word (s.drop i)).length) : blank (s.getD j 0) = false := by
  have := (tw_lt (p := fun c => !blank c) (s := s.drop i) (i := j - i) (by show _ < (word (s.drop i)).length; omega)).2
  rw [List.getD_eq_getElem?_getD, List.getElem?_drop, show i + (j - i) = j by omega, ← List.getD_eq_getElem?_getD] at this
  simpa using this
theorem word_end {s : List UInt8} {i k : Nat} (hk : k = i + (word (s.drop i)).length) (h : k < s.length) : blank (s.getD k 0) = true := by
  have := tw_end (p := fun c => !blank c) (s := s.drop i) (by show (word (s.drop i)).length < _; simp; omega)
  rw [List.getD_eq_getElem?_getD, List.getElem?_drop, show i + ((s.drop i).takeWhile (fun c => !blank c)).length = k from hk.symm, ← List.getD_eq_getElem?_getD] at this
  simpa using this
structure Line where
  lab : List UInt8
  op : List UInt8
  arg : Arg
def Line.c (l : Line) : Nat → AV := getL [st l.lab, st l.op, u8 l.arg.k, st l.arg.nm, i64 l.arg.v]
def Line.av (l : Line) : AV := .agg 5 l.c
def lz : Line := ⟨[], [], az⟩
def scanT (x : Line × Int × Int) : AV := tupV [x.1.av, i64 x.2.1, i64 x.2.2]
def upd (m : Nat) (s : List UInt8) (l : Line) : Line := if m = 0 then { l with lab := s } else if m = 1 then { l with op := s } else { l with arg := (opnd s).1 }
/-- The fields of a line are taken in, m of them came before. -/
def scanF : List (Nat × List UInt8) → Nat → Line → Line × Int × Int
  | [], _, l => (l, 0, 0)
  | p :: ps, m, l =>
    if m ≤ 1 then (if isName p.2 then scanF ps (m + 1) (upd m p.2 l) else (lz, p.1, 5))
    else if m = 2 then (if (opnd p.2).2.2 ≠ 0 then (lz, p.1 + (opnd p.2).2.1, (opnd p.2).2.2) else scanF ps (m + 1) (upd m p.2 l))
    else (lz, p.1, 5)
def outF : Nat → List (Nat × List UInt8) → Line → Line
  | _, [], l => l
  | m, p :: ps, l => outF (m + 1) ps (upd m p.2 l)
theorem outF_snoc : ∀ (ps : List (Nat × List UInt8)) (m : Nat) (l : Line) (p : Nat × List UInt8), outF m (ps ++ [p]) l = upd (m + ps.length) p.2 (outF m ps l)
  | [], m, l, p => rfl
  | q :: ps, m, l, p => by
    rw [List.cons_append, outF, outF_snoc ps, outF, List.length_cons]
    congr 1; omega
def nx (t : List UInt8) : Nat := if t == [] || blank (t.getD 0 0) then 1 else 0
def scan (s : List UInt8) : Line × Int × Int := if 120 < (s.length : Int) then (lz, 120, 4) else scanF (fl (bef 35 s) 0) (nx (bef 35 s)) lz
theorem flds_bd : ∀ (s : List UInt8) (o : Nat) (cur : List UInt8) (p : Nat × List UInt8), p ∈ flds o cur s → p.2.length ≤ cur.length + s.length ∧ p.1 ≤ o + s.length
  | [], o, cur, p, h => by
    simp only [flds] at h
    split at h
    · cases h
    · simp only [List.mem_singleton] at h; subst h; simp
  | c :: s, o, cur, p, h => by
    simp only [flds] at h
    split at h
    · split at h
      · have := flds_bd s (o + 1) [] p h; simp at this ⊢; omega
      · rcases List.mem_cons.mp h with rfl | h
        · simp; omega
        · have := flds_bd s (o + 1) [] p h; simp at this ⊢; omega
    · have := flds_bd s (o + 1) (cur ++ [c]) p h; simp at this ⊢; omega
theorem fl_bd {s : List UInt8} {p : Nat × List UInt8} (h : p ∈ fl s 0) : p.2.length ≤ s.length ∧ p.1 ≤ s.length := by
  have := flds_bd _ _ _ p h; simpa using this
theorem opnd_at (s : List UInt8) : 0 ≤ (opnd s).2.1 ∧ (opnd s).2.1 ≤ s.length + 1 := by
  have := tw_le (p := inner) s
  change nameLen s ≤ s.length at this
  unfold opnd
  repeat' split
  all_goals (simp only; omega)
theorem bef_le (c : UInt8) (s : List UInt8) : (bef c s).length ≤ s.length := tw_le s
theorem valid_log {pre : List (List AV)} {x : List AV} {F : List (Nat × List UInt8)} (h : pre ++ [x] <+: logF F) :
    ∃ p, p ∈ F ∧ F.drop pre.length = p :: F.drop (pre.length + 1) ∧ x = [i64 p.1, st p.2] ∧ F.take (pre.length + 1) = F.take pre.length ++ [p] ∧ pre.length < F.length := by
  obtain ⟨r, hr⟩ := h
  have hlen : pre.length < F.length := by
    have := congrArg List.length hr
    simp [logF] at this; omega
  refine ⟨F[pre.length], List.getElem_mem hlen, List.drop_eq_getElem_cons hlen, ?_, ?_, hlen⟩
  · have : (logF F)[pre.length]? = some x := by rw [← hr]; simp
    simp only [logF, List.getElem?_map, List.getElem?_eq_getElem hlen, Option.map_some, Option.some.injEq] at this
    exact this.symm
  · rw [List.take_add_one, List.getElem?_eq_getElem hlen]; rfl
theorem agg5 {H : Heap} {B : List Nat} {U : List (Nat × Nat)} {f g : Nat → AV} (h0 : VLe H B U (f 0) (g 0)) (h1 : VLe H B U (f 1) (g 1)) (h2 : VLe H B U (f 2) (g 2)) (h3 : VLe H B U (f 3) (g 3)) (h4 : VLe H B U (f 4) (g 4)) : VLe H B U (.agg 5 f) (.agg 5 g) :=
  .agg _ _ _ fun i hi => match i, hi with
    | 0, _ => h0
    | 1, _ => h1
    | 2, _ => h2
    | 3, _ => h3
    | 4, _ => h4
theorem ole5 {H : Heap} {B : List Nat} {U : List (Nat × Nat)} {o o' : AO} (hE : o'.E = o.E) (hg : o'.gen = o.gen) (h3 : o.sz = 5) (hs : o'.sz = 5) (hn : o.n = 1) (hn' : o'.n = 1) (h0 : VLe H B U (o.f 0 0) (o'.f 0 0)) (h1 : VLe H B U (o.f 0 1) (o'.f 0 1)) (h2 : VLe H B U (o.f 0 2) (o'.f 0 2))
    (h3' : VLe H B U (o.f 0 3) (o'.f 0 3)) (h4 : VLe H B U (o.f 0 4) (o'.f 0 4)) : OLe H B U o o' := by
  refine ⟨hE, hg, by omega, by omega, fun i j hi hj => ?_⟩
  obtain rfl : i = 0 := by omega
  rcases (by omega : j = 0 ∨ j = 1 ∨ j = 2 ∨ j = 3 ∨ j = 4) with rfl | rfl | rfl | rfl | rfl
  · exact h0
  · exact h1
  · exact h2
  · exact h3'
  · exact h4
theorem ole1 {H : Heap} {B : List Nat} {U : List (Nat × Nat)} {o o' : AO} (hE : o'.E = o.E) (hg : o'.gen = o.gen) (h3 : o.sz = 1) (hs : o'.sz = 1) (hn : o.n = 1) (hn' : o'.n = 1) (h0 : VLe H B U (o.f 0 0) (o'.f 0 0)) : OLe H B U o o' := by
  refine ⟨hE, hg, by omega, by omega, fun i j hi hj => ?_⟩
  obtain rfl : i = 0 := by omega
  obtain rfl : j = 0 := by omega
  exact h0
def lineO (l : Line) : AO := ⟨27, 0, 5, 1, fun _ j => l.c j⟩
def intO (E : TypeId) (n : Int) : AO := ⟨E, 0, 1, 1, fun _ _ => i64 n⟩
def Sc (t : List UInt8) (m : Nat) : ASt := mkSt 76 [(5, st t), (2, .ptr 2 0 5 0 0), (3, .ptr 3 0 1 0 0), (4, .ptr 4 0 1 0 0), (8, .ptr 8 0 5 0 0), (9, .ptr 9 0 1 0 0)]
  [(2, lineO lz), (3, intO 3 0), (4, intO 35 0), (8, lineO lz), (9, intO 3 m)]
def within (n : Int) : Bool := decide (-65535 ≤ n) && decide (n ≤ 65535)
theorem tk58 (n : Int) : PureCall Tryd.prog 56 [i64 n] (bb (within n)) := by
  refine PureCall.run tab_ok mixed (by kernel_rfl) Tryd.func56 rfl rfl rfl ?_
  conv => whnf
  repeat (first | ((with_reducible first | apply ga | apply gb | apply gc | apply gd | apply ge | apply gf | apply gg | apply gh | apply gi | apply gj); conv => whnf) | (refine ⟨⟨rfl, rfl, nle rfl, nle rfl⟩, ?_⟩; conv => whnf) | fail)
  repeat' (first | ((with_reducible first | apply ga | apply gb | apply gc | apply gd | apply ge | apply gf | apply gg | apply gh | apply gi | apply gj); conv => whnf) | (refine ⟨fun hc => ?_, fun hc => ?_⟩ <;> (conv => whnf)) | fail)
  all_goals (refine done_bool _ _ rfl rfl ?_; simp_all [within]; try omega)
theorem tk59 (n : Int) : PureCall Tryd.prog 60 [i64 n] (bb (within n)) := by
  refine PureCall.run tab_ok mixed (by kernel_rfl) Tryd.func60 rfl rfl rfl ?_
  conv => whnf
  repeat (first | ((with_reducible first | apply ga | apply gb | apply gc | apply gd | apply ge | apply gf | apply gg | apply gh | apply gi | apply gj); conv => whnf) | (refine ⟨⟨rfl, rfl, nle rfl, nle rfl⟩, ?_⟩; conv => whnf) | fail)
  repeat' (first | ((with_reducible first | apply ga | apply gb | apply gc | apply gd | apply ge | apply gf | apply gg | apply gh | apply gi | apply gj); conv => whnf) | (refine ⟨fun hc => ?_, fun hc => ?_⟩ <;> (conv => whnf)) | fail)
  all_goals (refine done_bool _ _ rfl rfl ?_; simp_all [within]; try omega)
theorem itoa_len {n : Int} (h : inI64 n) : (Lib.itoa n).length ≤ 21 := by
  unfold inI64 at h
  unfold Lib.itoa
  split
  · rw [List.length_cons, Lib.decDigits_length]
    have := Lib.nDigits_le20 n.natAbs (by omega)
    omega
  · rw [Lib.decDigits_length]
    have := Lib.nDigits_le20 n.toNat (by omega)
    omega
/-- An operand as a string. -/
def opStr (a : Arg) : List UInt8 × Bool :=
  if a.k = 0 then ([], a.nm == [] && a.v == 0)
  else if a.k = 1 then (32 :: Lib.itoa a.v, a.nm == [] && within a.v)
  else if a.k = 2 then (32 :: a.nm ++ (if 0 < a.v then [43] else []) ++ (if a.v = 0 then [] else Lib.itoa a.v), isName a.nm && within a.v)
  else ([], false)
def osT (x : List UInt8 × Bool) : AV := tupV [st x.1, bb x.2]
theorem tk47 (a : Arg) (hv : inI64 a.v) (hn : B62 a.nm) : PureCall Tryd.prog 39 [a.av] (osT (opStr a)) := by
  have hn' := hn
  unfold B62 at hn'
  have hi := itoa_len hv
  refine PureCall.run tab_ok mixed (by kernel_rfl) Tryd.func39 rfl rfl rfl ?_
  conv => whnf
  repeat (first | ((with_reducible first | apply ga | apply gb | apply gc | apply gd | apply ge | apply gf | apply gg | apply gh | apply gi | apply gj); conv => whnf) | (refine ⟨⟨rfl, rfl, nle rfl, nle rfl⟩, ?_⟩; conv => whnf) | fail)
  refine ⟨fun h0 => ?_, fun h0 => ?_⟩ <;> replace h0 := nm h0 <;> (try simp only [Int.toNat_zero] at h0) <;> (try simp only [Int.toNat_one] at h0)
  · conv => whnf
    repeat (first | ((with_reducible first | apply ga | apply gb | apply gc | apply gd | apply ge | apply gf | apply gg | apply gh | apply gi | apply gj); conv => whnf) | (refine ⟨⟨rfl, rfl, nle rfl, nle rfl⟩, ?_⟩; conv => whnf) | fail)
    refine ⟨rfl, ?_⟩
    conv => whnf
    repeat (first | ((with_reducible first | apply ga | apply gb | apply gc | apply gd | apply ge | apply gf | apply gg | apply gh | apply gi | apply gj); conv => whnf) | (refine ⟨⟨rfl, rfl, nle rfl, nle rfl⟩, ?_⟩; conv => whnf) | fail)
    have hO : opStr a = ([], a.nm == [] && a.v == 0) := by rw [opStr, if_pos h0]
    rw [hO]
    exact done_tup [st [], bb (a.nm == [] && a.v == 0)] [] rfl ⟨.same, .bool (by rw [h0]; simp), trivial⟩
  · conv => whnf
    repeat (first | ((with_reducible first | apply ga | apply gb | apply gc | apply gd | apply ge | apply gf | apply gg | apply gh | apply gi | apply gj); conv => whnf) | (refine ⟨⟨rfl, rfl, nle rfl, nle rfl⟩, ?_⟩; conv => whnf) | fail)
    refine ⟨fun h1 => ?_, fun h1 => ?_⟩ <;> replace h1 := nm h1 <;> (try simp only [Int.toNat_zero] at h1) <;> (try simp only [Int.toNat_one] at h1)
    · conv => whnf
      repeat (first | ((with_reducible first | apply ga | apply gb | apply gc | apply gd | apply ge | apply gf | apply gg | apply gh | apply gi | apply gj); conv => whnf) | (refine ⟨⟨rfl, rfl, nle rfl, nle rfl⟩, ?_⟩; conv => whnf) | fail)
      refine ⟨_, [], ⟨_, tk57 a.v hv, ⟨.same, trivial⟩, .inl rfl⟩, ?_⟩
      conv => whnf
      repeat (first | ((with_reducible first | apply ga | apply gb | apply gc | apply gd | apply ge | apply gf | apply gg | apply gh | apply gi | apply gj); conv => whnf) | (refine ⟨⟨rfl, rfl, nle rfl, nle rfl⟩, ?_⟩; conv => whnf) | fail)
      refine ⟨⟨by simp only [List.length_cons, List.length_nil]; omega⟩, ?_⟩
      conv => whnf
      repeat (first | ((with_reducible first | apply ga | apply gb | apply gc | apply gd | apply ge | apply gf | apply gg | apply gh | apply gi | apply gj); conv => whnf) | (refine ⟨⟨rfl, rfl, nle rfl, nle rfl⟩, ?_⟩; conv => whnf) | fail)
      refine ⟨fun hx => ?_, fun hx => ?_⟩ <;> replace hx := nm hx <;> (try simp only [Int.toNat_zero] at hx) <;> (try simp only [Int.toNat_one] at hx)
      · conv => whnf
        repeat (first | ((with_reducible first | apply ga | apply gb | apply gc | apply gd | apply ge | apply gf | apply gg | apply gh | apply gi | apply gj); conv => whnf) | (refine ⟨⟨rfl, rfl, nle rfl, nle rfl⟩, ?_⟩; conv => whnf) | fail)
        refine ⟨_, [], ⟨_, tk58 a.v, ⟨.same, trivial⟩, .inl rfl⟩, ?_⟩
        conv => whnf
        repeat (first | ((with_reducible first | apply ga | apply gb | apply gc | apply gd | apply ge | apply gf | apply gg | apply gh | apply gi | apply gj); conv => whnf) | (refine ⟨⟨rfl, rfl, nle rfl, nle rfl⟩, ?_⟩; conv => whnf) | fail)
        refine ⟨rfl, ?_⟩
        conv => whnf
        repeat (first | ((with_reducible first | apply ga | apply gb | apply gc | apply gd | apply ge | apply gf | apply gg | apply gh | apply gi | apply gj); conv => whnf) | (refine ⟨⟨rfl, rfl, nle rfl, nle rfl⟩, ?_⟩; conv => whnf) | fail)
        have hO : opStr a = (32 :: Lib.itoa a.v, within a.v) := by rw [opStr, if_neg h0, if_pos h1, hx]; rfl
        rw [hO]
        exact done_tup [st (32 :: Lib.itoa a.v), bb (within a.v)] [] rfl ⟨.same, .same, trivial⟩
      · conv => whnf
        repeat (first | ((with_reducible first | apply ga | apply gb | apply gc | apply gd | apply ge | apply gf | apply gg | apply gh | apply gi | apply gj); conv => whnf) | (refine ⟨⟨rfl, rfl, nle rfl, nle rfl⟩, ?_⟩; conv => whnf) | fail)
        refine ⟨rfl, ?_⟩
        conv => whnf
        repeat (first | ((with_reducible first | apply ga | apply gb | apply gc | apply gd | apply ge | apply gf | apply gg | apply gh | apply gi | apply gj); conv => whnf) | (refine ⟨⟨rfl, rfl, nle rfl, nle rfl⟩, ?_⟩; conv => whnf) | fail)
        have hO : opStr a = (32 :: Lib.itoa a.v, false) := by rw [opStr, if_neg h0, if_pos h1, show (a.nm == []) = false by simpa using hx]; rfl
        rw [hO]
        exact done_tup [st (32 :: Lib.itoa a.v), bb false] [] rfl ⟨.same, .same, trivial⟩
    · conv => whnf
      repeat (first | ((with_reducible first | apply ga | apply gb | apply gc | apply gd | apply ge | apply gf | apply gg | apply gh | apply gi | apply gj); conv => whnf) | (refine ⟨⟨rfl, rfl, nle rfl, nle rfl⟩, ?_⟩; conv => whnf) | fail)
      refine ⟨fun h2 => ?_, fun h2 => ?_⟩ <;> replace h2 := nm h2 <;> (try simp only [Int.toNat_zero] at h2) <;> (try simp only [Int.toNat_one] at h2)
      · conv => whnf
        repeat (first | ((with_reducible first | apply ga | apply gb | apply gc | apply gd | apply ge | apply gf | apply gg | apply gh | apply gi | apply gj); conv => whnf) | (refine ⟨⟨rfl, rfl, nle rfl, nle rfl⟩, ?_⟩; conv => whnf) | fail)
        refine ⟨⟨by simp only [List.length_cons, List.length_nil]; omega⟩, ?_⟩
        conv => whnf
        repeat (first | ((with_reducible first | apply ga | apply gb | apply gc | apply gd | apply ge | apply gf | apply gg | apply gh | apply gi | apply gj); conv => whnf) | (refine ⟨⟨rfl, rfl, nle rfl, nle rfl⟩, ?_⟩; conv => whnf) | fail)
        refine ⟨fun hp => ?_, fun hp => ?_⟩ <;> replace hp := nm hp <;> (try simp only [Int.toNat_zero] at hp) <;> (try simp only [Int.toNat_one] at hp)
        · conv => whnf
          repeat (first | ((with_reducible first | apply ga | apply gb | apply gc | apply gd | apply ge | apply gf | apply gg | apply gh | apply gi | apply gj); conv => whnf) | (refine ⟨⟨rfl, rfl, nle rfl, nle rfl⟩, ?_⟩; conv => whnf) | fail)
          refine ⟨⟨by simp only [List.length_append, List.length_cons, List.length_nil]; omega⟩, ?_⟩
          conv => whnf
          repeat (first | ((with_reducible first | apply ga | apply gb | apply gc | apply gd | apply ge | apply gf | apply gg | apply gh | apply gi | apply gj); conv => whnf) | (refine ⟨⟨rfl, rfl, nle rfl, nle rfl⟩, ?_⟩; conv => whnf) | fail)
          refine ⟨fun hz => ?_, fun hz => ?_⟩ <;> replace hz := nm hz <;> (try simp only [Int.toNat_zero] at hz) <;> (try simp only [Int.toNat_one] at hz)
          · conv => whnf
            repeat (first | ((with_reducible first | apply ga | apply gb | apply gc | apply gd | apply ge | apply gf | apply gg | apply gh | apply gi | apply gj); conv => whnf) | (refine ⟨⟨rfl, rfl, nle rfl, nle rfl⟩, ?_⟩; conv => whnf) | fail)
            refine CallK.flat [] (tk57 a.v hv) ⟨.same, trivial⟩ rfl ?_
            conv => whnf
            repeat (first | ((with_reducible first | apply ga | apply gb | apply gc | apply gd | apply ge | apply gf | apply gg | apply gh | apply gi | apply gj); conv => whnf) | (refine ⟨⟨rfl, rfl, nle rfl, nle rfl⟩, ?_⟩; conv => whnf) | fail)
            refine ⟨⟨by simp only [List.length_append, List.length_cons, List.length_nil]; omega⟩, ?_⟩
            conv => whnf
            repeat (first | ((with_reducible first | apply ga | apply gb | apply gc | apply gd | apply ge | apply gf | apply gg | apply gh | apply gi | apply gj); conv => whnf) | (refine ⟨⟨rfl, rfl, nle rfl, nle rfl⟩, ?_⟩; conv => whnf) | fail)
            refine CallK.flat [] (tk16 a.nm hn) ⟨.same, trivial⟩ rfl ?_
            conv => whnf
            repeat (first | ((with_reducible first | apply ga | apply gb | apply gc | apply gd | apply ge | apply gf | apply gg | apply gh | apply gi | apply gj); conv => whnf) | (refine ⟨⟨rfl, rfl, nle rfl, nle rfl⟩, ?_⟩; conv => whnf) | fail)
            refine ⟨fun hx => ?_, fun hx => ?_⟩ <;> replace hx := nm hx <;> (try simp only [Int.toNat_zero] at hx) <;> (try simp only [Int.toNat_one] at hx)
            · conv => whnf
              repeat (first | ((with_reducible first | apply ga | apply gb | apply gc | apply gd | apply ge | apply gf | apply gg | apply gh | apply gi | apply gj); conv => whnf) | (refine ⟨⟨rfl, rfl, nle rfl, nle rfl⟩, ?_⟩; conv => whnf) | fail)
              refine CallK.flat [] (tk58 a.v) ⟨.same, trivial⟩ rfl ?_
              conv => whnf
              repeat (first | ((with_reducible first | apply ga | apply gb | apply gc | apply gd | apply ge | apply gf | apply gg | apply gh | apply gi | apply gj); conv => whnf) | (refine ⟨⟨rfl, rfl, nle rfl, nle rfl⟩, ?_⟩; conv => whnf) | fail)
              have hO : opStr a = (((32 :: a.nm) ++ [43]) ++ Lib.itoa a.v, within a.v) := by rw [opStr, if_neg h0, if_neg h1, if_pos h2, hx, Bool.true_and]; rw [if_pos hp, if_neg (by omega)]
              rw [hO]
              exact done_tup [st (((32 :: a.nm) ++ [43]) ++ Lib.itoa a.v), bb (within a.v)] [] rfl ⟨.same, .same, trivial⟩
            · conv => whnf
              repeat (first | ((with_reducible first | apply ga | apply gb | apply gc | apply gd | apply ge | apply gf | apply gg | apply gh | apply gi | apply gj); conv => whnf) | (refine ⟨⟨rfl, rfl, nle rfl, nle rfl⟩, ?_⟩; conv => whnf) | fail)
              have hO : opStr a = (((32 :: a.nm) ++ [43]) ++ Lib.itoa a.v, false) := by rw [opStr, if_neg h0, if_neg h1, if_pos h2, hx, Bool.false_and]; rw [if_pos hp, if_neg (by omega)]
              rw [hO]
              exact done_tup [st (((32 :: a.nm) ++ [43]) ++ Lib.itoa a.v), bb false] [] rfl ⟨.same, .same, trivial⟩
          · exfalso; omega
        · conv => whnf
          repeat (first | ((with_reducible first | apply ga | apply gb | apply gc | apply gd | apply ge | apply gf | apply gg | apply gh | apply gi | apply gj); conv => whnf) | (refine ⟨⟨rfl, rfl, nle rfl, nle rfl⟩, ?_⟩; conv => whnf) | fail)
          refine ⟨fun hz => ?_, fun hz => ?_⟩ <;> replace hz := nm hz <;> (try simp only [Int.toNat_zero] at hz) <;> (try simp only [Int.toNat_one] at hz)
          · conv => whnf
            repeat (first | ((with_reducible first | apply ga | apply gb | apply gc | apply gd | apply ge | apply gf | apply gg | apply gh | apply gi | apply gj); conv => whnf) | (refine ⟨⟨rfl, rfl, nle rfl, nle rfl⟩, ?_⟩; conv => whnf) | fail)
            refine CallK.flat [] (tk57 a.v hv) ⟨.same, trivial⟩ rfl ?_
            conv => whnf
            repeat (first | ((with_reducible first | apply ga | apply gb | apply gc | apply gd | apply ge | apply gf | apply gg | apply gh | apply gi | apply gj); conv => whnf) | (refine ⟨⟨rfl, rfl, nle rfl, nle rfl⟩, ?_⟩; conv => whnf) | fail)
            refine ⟨⟨by simp only [List.length_append, List.length_cons, List.length_nil]; omega⟩, ?_⟩
            conv => whnf
            repeat (first | ((with_reducible first | apply ga | apply gb | apply gc | apply gd | apply ge | apply gf | apply gg | apply gh | apply gi | apply gj); conv => whnf) | (refine ⟨⟨rfl, rfl, nle rfl, nle rfl⟩, ?_⟩; conv => whnf) | fail)
            refine CallK.flat [] (tk16 a.nm hn) ⟨.same, trivial⟩ rfl ?_
            conv => whnf
            repeat (first | ((with_reducible first | apply ga | apply gb | apply gc | apply gd | apply ge | apply gf | apply gg | apply gh | apply gi | apply gj); conv => whnf) | (refine ⟨⟨rfl, rfl, nle rfl, nle rfl⟩, ?_⟩; conv => whnf) | fail)
            refine ⟨fun hx => ?_, fun hx => ?_⟩ <;> replace hx := nm hx <;> (try simp only [Int.toNat_zero] at hx) <;> (try simp only [Int.toNat_one] at hx)
            · conv => whnf
              repeat (first | ((with_reducible first | apply ga | apply gb | apply gc | apply gd | apply ge | apply gf | apply gg | apply gh | apply gi | apply gj); conv => whnf) | (refine ⟨⟨rfl, rfl, nle rfl, nle rfl⟩, ?_⟩; conv => whnf) | fail)
              refine CallK.flat [] (tk58 a.v) ⟨.same, trivial⟩ rfl ?_
              conv => whnf
              repeat (first | ((with_reducible first | apply ga | apply gb | apply gc | apply gd | apply ge | apply gf | apply gg | apply gh | apply gi | apply gj); conv => whnf) | (refine ⟨⟨rfl, rfl, nle rfl, nle rfl⟩, ?_⟩; conv => whnf) | fail)
              have hO : opStr a = ((32 :: a.nm) ++ Lib.itoa a.v, within a.v) := by rw [opStr, if_neg h0, if_neg h1, if_pos h2, hx, Bool.true_and]; rw [if_neg (by omega), if_neg hz, List.append_nil]
              rw [hO]
              exact done_tup [st ((32 :: a.nm) ++ Lib.itoa a.v), bb (within a.v)] [] rfl ⟨.same, .same, trivial⟩
            · conv => whnf
              repeat (first | ((with_reducible first | apply ga | apply gb | apply gc | apply gd | apply ge | apply gf | apply gg | apply gh | apply gi | apply gj); conv => whnf) | (refine ⟨⟨rfl, rfl, nle rfl, nle rfl⟩, ?_⟩; conv => whnf) | fail)
              have hO : opStr a = ((32 :: a.nm) ++ Lib.itoa a.v, false) := by rw [opStr, if_neg h0, if_neg h1, if_pos h2, hx, Bool.false_and]; rw [if_neg (by omega), if_neg hz, List.append_nil]
              rw [hO]
              exact done_tup [st ((32 :: a.nm) ++ Lib.itoa a.v), bb false] [] rfl ⟨.same, .same, trivial⟩
          · conv => whnf
            repeat (first | ((with_reducible first | apply ga | apply gb | apply gc | apply gd | apply ge | apply gf | apply gg | apply gh | apply gi | apply gj); conv => whnf) | (refine ⟨⟨rfl, rfl, nle rfl, nle rfl⟩, ?_⟩; conv => whnf) | fail)
            refine CallK.flat [] (tk16 a.nm hn) ⟨.same, trivial⟩ rfl ?_
            conv => whnf
            repeat (first | ((with_reducible first | apply ga | apply gb | apply gc | apply gd | apply ge | apply gf | apply gg | apply gh | apply gi | apply gj); conv => whnf) | (refine ⟨⟨rfl, rfl, nle rfl, nle rfl⟩, ?_⟩; conv => whnf) | fail)
            refine ⟨fun hx => ?_, fun hx => ?_⟩ <;> replace hx := nm hx <;> (try simp only [Int.toNat_zero] at hx) <;> (try simp only [Int.toNat_one] at hx)
            · conv => whnf
              repeat (first | ((with_reducible first | apply ga | apply gb | apply gc | apply gd | apply ge | apply gf | apply gg | apply gh | apply gi | apply gj); conv => whnf) | (refine ⟨⟨rfl, rfl, nle rfl, nle rfl⟩, ?_⟩; conv => whnf) | fail)
              refine CallK.flat [] (tk58 a.v) ⟨.same, trivial⟩ rfl ?_
              conv => whnf
              repeat (first | ((with_reducible first | apply ga | apply gb | apply gc | apply gd | apply ge | apply gf | apply gg | apply gh | apply gi | apply gj); conv => whnf) | (refine ⟨⟨rfl, rfl, nle rfl, nle rfl⟩, ?_⟩; conv => whnf) | fail)
              have hO : opStr a = (32 :: a.nm, within a.v) := by rw [opStr, if_neg h0, if_neg h1, if_pos h2, hx, Bool.true_and]; rw [if_neg (by omega), if_pos hz, List.append_nil, List.append_nil]
              rw [hO]
              exact done_tup [st (32 :: a.nm), bb (within a.v)] [] rfl ⟨.same, .same, trivial⟩
            · conv => whnf
              repeat (first | ((with_reducible first | apply ga | apply gb | apply gc | apply gd | apply ge | apply gf | apply gg | apply gh | apply gi | apply gj); conv => whnf) | (refine ⟨⟨rfl, rfl, nle rfl, nle rfl⟩, ?_⟩; conv => whnf) | fail)
              have hO : opStr a = (32 :: a.nm, false) := by rw [opStr, if_neg h0, if_neg h1, if_pos h2, hx, Bool.false_and]; rw [if_neg (by omega), if_pos hz, List.append_nil, List.append_nil]
              rw [hO]
              exact done_tup [st (32 :: a.nm), bb false] [] rfl ⟨.same, .same, trivial⟩
      · conv => whnf
        repeat (first | ((with_reducible first | apply ga | apply gb | apply gc | apply gd | apply ge | apply gf | apply gg | apply gh | apply gi | apply gj); conv => whnf) | (refine ⟨⟨rfl, rfl, nle rfl, nle rfl⟩, ?_⟩; conv => whnf) | fail)
        have hO : opStr a = ([], false) := by rw [opStr, if_neg h0, if_neg h1, if_neg h2]
        rw [hO]
        exact done_tup [st [], bb false] [] rfl ⟨.same, .same, trivial⟩
def bad (l : Line) : Bool := !(opStr l.arg).2 || (!(l.lab == []) && !(isName l.lab)) || ((l.op == []) && !((opStr l.arg).1 == [])) || (!(l.op == []) && !(isName l.op))
/-- A line as a string. -/
def print (l : Line) : List UInt8 × Int := if bad l then ([], 2) else if l.op == [] then (l.lab, 0) else (l.lab ++ [32] ++ l.op ++ (opStr l.arg).1, 0)
def prT (x : List UInt8 × Int) : AV := tupV [st x.1, i64 x.2]
def LineB (l : Line) : Prop := l.lab.length < 2 ^ 48 ∧ l.op.length < 2 ^ 48 ∧ l.arg.nm.length < 2 ^ 48 ∧ inI64 l.arg.v
theorem opStr_len {a : Arg} (hv : inI64 a.v) : (opStr a).1.length ≤ a.nm.length + 30 := by
  have := itoa_len hv
  unfold opStr
  split
  · simp
  · split
    · simp; omega
    · split
      · simp only [List.length_append, List.length_cons]
        split <;> split <;> simp <;> omega
      · simp
set_option maxHeartbeats 2000000 in
theorem tk23 (l : Line) (h : LineB l) : PureCall Tryd.prog 27 [l.av] (prT (print l)) := by
  obtain ⟨h1, h2, h3, h4⟩ := h
  have hlab : B62 l.lab := by unfold B62; omega
  have hop : B62 l.op := by unfold B62; omega
  have hsl := opStr_len h4
  refine PureCall.run tab_ok mixed (by kernel_rfl) Tryd.func27 rfl rfl rfl ?_
  conv => whnf
  repeat (first | ((with_reducible first | apply ga | apply gb | apply gc | apply gd | apply ge | apply gf | apply gg | apply gh | apply gi | apply gj); conv => whnf) | (refine ⟨⟨rfl, rfl, nle rfl, nle rfl⟩, ?_⟩; conv => whnf) | fail)
  refine CallK.flat [] (tk47 l.arg h4 (by unfold B62; omega)) ⟨agg3 .same .same .same, trivial⟩ rfl ?_
  conv => whnf
  repeat (first | ((with_reducible first | apply ga | apply gb | apply gc | apply gd | apply ge | apply gf | apply gg | apply gh | apply gi | apply gj); conv => whnf) | (refine ⟨⟨rfl, rfl, nle rfl, nle rfl⟩, ?_⟩; conv => whnf) | fail)
  repeat' (first | ((with_reducible first | apply ga | apply gb | apply gc | apply gd | apply ge | apply gf | apply gg | apply gh | apply gi | apply gj); conv => whnf) | (refine ⟨⟨rfl, rfl, nle rfl, nle rfl⟩, ?_⟩; conv => whnf) | (refine CallK.flat [] (tk16 l.lab hlab) ⟨.same, trivial⟩ rfl ?_; conv => whnf) | (refine CallK.flat [] (tk16 l.op hop) ⟨.same, trivial⟩ rfl ?_; conv => whnf) | (refine ⟨fun hc => ?_, fun hc => ?_⟩ <;> (conv => whnf)) | fail)
  all_goals first
    | (have hO : print l = ([], 2) := by simp_all [print, bad]
       rw [hO]; exact done_tup [st [], i64 2] [] rfl ⟨.same, .same, trivial⟩)
    | (have hO : print l = (l.lab, 0) := by simp_all [print, bad]
       rw [hO]; exact done_tup [st l.lab, i64 0] [] rfl ⟨.same, .same, trivial⟩)
    | (refine ⟨⟨by simp only [List.length_append, List.length_cons, List.length_nil]; omega⟩, ?_⟩
       conv => whnf
       repeat (refine ⟨⟨rfl, rfl, nle rfl, nle rfl⟩, ?_⟩; conv => whnf)
       refine ⟨⟨by simp only [List.length_append, List.length_cons, List.length_nil]; omega⟩, ?_⟩
       conv => whnf
       refine ⟨⟨by simp only [List.length_append, List.length_cons, List.length_nil]; omega⟩, ?_⟩
       conv => whnf
       have hO : print l = (l.lab ++ [32] ++ l.op ++ (opStr l.arg).1, 0) := by simp_all [print, bad]
       rw [hO]; exact done_tup [st (l.lab ++ [32] ++ l.op ++ (opStr l.arg).1), i64 0] [] rfl ⟨.same, .same, trivial⟩)
def digs : List UInt8 := [48, 49, 50, 51, 52, 53, 54, 55, 56, 57]
theorem digs_at : ∀ n : Nat, n < 10 → (digs.take (n + 1)).drop n = [UInt8.ofNat (48 + n)] := by decide
theorem dec_big {u : Nat} (h : ¬ u < 10) : Lib.decDigits u = Lib.decDigits (u / 10) ++ Lib.decDigits (u % 10) := by
  rw [Lib.decDigits_one (i := u % 10) (by omega)]
  conv => lhs; rw [Lib.decDigits, dif_neg h]
theorem tk27n : ∀ (u : Nat), u ≤ 65535 → PureCall Tryd.prog 42 [i64 u] (st (Lib.itoa u)) := by
  intro u
  induction u using Nat.strongRecOn with
  | ind u ih =>
    intro hu
    have hl : ∀ k : Nat, k ≤ 65535 → (Lib.itoa (k : Int)).length ≤ 21 := fun k hk => itoa_len (by unfold inI64; omega)
    refine PureCall.run tab_ok mixed (by kernel_rfl) Tryd.func42 rfl rfl rfl ?_
    conv => whnf
    repeat (first | ((with_reducible first | apply ga | apply gb | apply gc | apply gd | apply ge | apply gf | apply gg | apply gh | apply gi | apply gj); conv => whnf) | (refine ⟨⟨rfl, rfl, nle rfl, nle rfl⟩, ?_⟩; conv => whnf) | fail)
    refine ⟨fun hn => ?_, fun hn => ?_⟩ <;> replace hn := nm hn <;> (try simp only [Int.toNat_zero] at hn) <;> (try simp only [Int.toNat_one] at hn)
    · exfalso; omega
    · conv => whnf
      repeat (first | ((with_reducible first | apply ga | apply gb | apply gc | apply gd | apply ge | apply gf | apply gg | apply gh | apply gi | apply gj); conv => whnf) | (refine ⟨⟨rfl, rfl, nle rfl, nle rfl⟩, ?_⟩; conv => whnf) | fail)
      refine ⟨fun h10 => ?_, fun h10 => ?_⟩ <;> replace h10 := nm h10 <;> (try simp only [Int.toNat_zero] at h10) <;> (try simp only [Int.toNat_one] at h10)
      · conv => whnf
        repeat (first | ((with_reducible first | apply ga | apply gb | apply gc | apply gd | apply ge | apply gf | apply gg | apply gh | apply gi | apply gj); conv => whnf) | (refine ⟨⟨rfl, rfl, nle rfl, nle rfl⟩, ?_⟩; conv => whnf) | fail)
        refine ⟨⟨by unfold inI64; omega⟩, ?_⟩
        conv => whnf
        repeat (first | ((with_reducible first | apply ga | apply gb | apply gc | apply gd | apply ge | apply gf | apply gg | apply gh | apply gi | apply gj); conv => whnf) | (refine ⟨⟨rfl, rfl, nle rfl, nle rfl⟩, ?_⟩; conv => whnf) | fail)
        refine ⟨⟨by omega, by omega, by simp only [List.length_cons, List.length_nil]; omega⟩, ?_⟩
        conv => whnf
        repeat (first | ((with_reducible first | apply ga | apply gb | apply gc | apply gd | apply ge | apply gf | apply gg | apply gh | apply gi | apply gj); conv => whnf) | (refine ⟨⟨rfl, rfl, nle rfl, nle rfl⟩, ?_⟩; conv => whnf) | fail)
        have hE : Lib.itoa (u : Int) = (digs.take ((u : Int) + 1).toNat).drop (u : Int).toNat := by
          rw [Lib.itoa_nonneg, show ((u : Int) + 1).toNat = u + 1 by omega, show ((u : Int)).toNat = u by omega, digs_at u (by omega), Lib.decDigits_one (by omega)]
        rw [hE]
        exact ⟨[], .same⟩
      · conv => whnf
        repeat (first | ((with_reducible first | apply ga | apply gb | apply gc | apply gd | apply ge | apply gf | apply gg | apply gh | apply gi | apply gj); conv => whnf) | (refine ⟨⟨rfl, rfl, nle rfl, nle rfl⟩, ?_⟩; conv => whnf) | fail)
        have e1 : Int.tdiv (u : Int) 10 = ((u / 10 : Nat) : Int) := by rw [Int.tdiv_eq_ediv_of_nonneg (by omega)]; omega
        have e2 : Int.tmod (u : Int) 10 = ((u % 10 : Nat) : Int) := by rw [Int.tmod_eq_emod_of_nonneg (by omega)]; omega
        refine ⟨⟨by decide, by unfold inI64; rw [e1]; omega⟩, ?_⟩
        conv => whnf
        repeat (first | ((with_reducible first | apply ga | apply gb | apply gc | apply gd | apply ge | apply gf | apply gg | apply gh | apply gi | apply gj); conv => whnf) | (refine ⟨⟨rfl, rfl, nle rfl, nle rfl⟩, ?_⟩; conv => whnf) | fail)
        rw [e1]
        refine CallK.flat [] (ih (u / 10) (by omega) (by omega)) ⟨.same, trivial⟩ rfl ?_
        conv => whnf
        repeat (first | ((with_reducible first | apply ga | apply gb | apply gc | apply gd | apply ge | apply gf | apply gg | apply gh | apply gi | apply gj); conv => whnf) | (refine ⟨⟨rfl, rfl, nle rfl, nle rfl⟩, ?_⟩; conv => whnf) | fail)
        refine ⟨⟨by decide⟩, ?_⟩
        conv => whnf
        repeat (first | ((with_reducible first | apply ga | apply gb | apply gc | apply gd | apply ge | apply gf | apply gg | apply gh | apply gi | apply gj); conv => whnf) | (refine ⟨⟨rfl, rfl, nle rfl, nle rfl⟩, ?_⟩; conv => whnf) | fail)
        rw [e2]
        refine CallK.flat [] (ih (u % 10) (by omega) (by omega)) ⟨.same, trivial⟩ rfl ?_
        conv => whnf
        repeat (first | ((with_reducible first | apply ga | apply gb | apply gc | apply gd | apply ge | apply gf | apply gg | apply gh | apply gi | apply gj); conv => whnf) | (refine ⟨⟨rfl, rfl, nle rfl, nle rfl⟩, ?_⟩; conv => whnf) | fail)
        refine ⟨⟨by have := hl (u / 10) (by omega); have := hl (u % 10) (by omega); omega⟩, ?_⟩
        conv => whnf
        repeat (first | ((with_reducible first | apply ga | apply gb | apply gc | apply gd | apply ge | apply gf | apply gg | apply gh | apply gi | apply gj); conv => whnf) | (refine ⟨⟨rfl, rfl, nle rfl, nle rfl⟩, ?_⟩; conv => whnf) | fail)
        have hE : Lib.itoa (u : Int) = Lib.itoa ((u / 10 : Nat) : Int) ++ Lib.itoa ((u % 10 : Nat) : Int) := by
          rw [Lib.itoa_nonneg, Lib.itoa_nonneg, Lib.itoa_nonneg]; exact dec_big (by omega)
        rw [hE]
        exact ⟨[], .same⟩
theorem tk27 (n : Int) (h : within n = true) : PureCall Tryd.prog 42 [i64 n] (st (Lib.itoa n)) := by
  have hw : -65535 ≤ n ∧ n ≤ 65535 := by simpa [within] using h
  by_cases hn : n < 0
  · obtain ⟨u, rfl⟩ : ∃ u : Nat, n = -(u : Int) := ⟨n.natAbs, by omega⟩
    refine PureCall.run tab_ok mixed (by kernel_rfl) Tryd.func42 rfl rfl rfl ?_
    conv => whnf
    repeat (first | ((with_reducible first | apply ga | apply gb | apply gc | apply gd | apply ge | apply gf | apply gg | apply gh | apply gi | apply gj); conv => whnf) | (refine ⟨⟨rfl, rfl, nle rfl, nle rfl⟩, ?_⟩; conv => whnf) | fail)
    refine ⟨fun hn' => ?_, fun hn' => ?_⟩ <;> replace hn' := nm hn' <;> (try simp only [Int.toNat_zero] at hn') <;> (try simp only [Int.toNat_one] at hn')
    · conv => whnf
      repeat (first | ((with_reducible first | apply ga | apply gb | apply gc | apply gd | apply ge | apply gf | apply gg | apply gh | apply gi | apply gj); conv => whnf) | (refine ⟨⟨rfl, rfl, nle rfl, nle rfl⟩, ?_⟩; conv => whnf) | fail)
      refine ⟨⟨by unfold inI64; omega⟩, ?_⟩
      conv => whnf
      repeat (first | ((with_reducible first | apply ga | apply gb | apply gc | apply gd | apply ge | apply gf | apply gg | apply gh | apply gi | apply gj); conv => whnf) | (refine ⟨⟨rfl, rfl, nle rfl, nle rfl⟩, ?_⟩; conv => whnf) | fail)
      rw [show 0 - -(u : Int) = u by omega]
      refine CallK.flat [] (tk27n u (by omega)) ⟨.same, trivial⟩ rfl ?_
      conv => whnf
      repeat (first | ((with_reducible first | apply ga | apply gb | apply gc | apply gd | apply ge | apply gf | apply gg | apply gh | apply gi | apply gj); conv => whnf) | (refine ⟨⟨rfl, rfl, nle rfl, nle rfl⟩, ?_⟩; conv => whnf) | fail)
      refine ⟨⟨by have := itoa_len (n := (u : Int)) (by unfold inI64; omega); simp only [List.length_cons, List.length_nil]; omega⟩, ?_⟩
      conv => whnf
      repeat (first | ((with_reducible first | apply ga | apply gb | apply gc | apply gd | apply ge | apply gf | apply gg | apply gh | apply gi | apply gj); conv => whnf) | (refine ⟨⟨rfl, rfl, nle rfl, nle rfl⟩, ?_⟩; conv => whnf) | fail)
      have hE : Lib.itoa (-(u : Int)) = [45] ++ Lib.itoa (u : Int) := by rw [Lib.itoa_neg u (by omega), Lib.itoa_nonneg]; rfl
      rw [hE]
      exact ⟨[], .same⟩
    · exfalso; omega
  · obtain ⟨u, rfl⟩ : ∃ u : Nat, n = u := ⟨n.toNat, by omega⟩
    exact tk27n u (by omega)
/-- Can the line be scanned from a string? -/
def mayB (l : Line) : Bool :=
  !((!(l.lab == []) && !(isName l.lab)) || (!(l.op == []) && !(isName l.op)) || ((l.op == []) && !(l.arg.k == 0))) &&
    (if l.arg.k = 0 then l.arg.nm == [] && l.arg.v == 0 else if l.arg.k = 1 then l.arg.nm == [] && within l.arg.v else if l.arg.k = 2 then isName l.arg.nm && within l.arg.v else false)
theorem bad_may (l : Line) : bad l = !(mayB l) := by
  unfold bad mayB opStr
  by_cases h0 : l.arg.k = 0
  · simp only [h0, if_true]; cases l.lab == [] <;> cases isName l.lab <;> cases l.op == [] <;> cases isName l.op <;> cases (l.arg.nm == [] && l.arg.v == 0) <;> rfl
  · have e0 : (l.arg.k == 0) = false := by simpa using h0
    by_cases h1 : l.arg.k = 1
    · have ec : ((32 :: Lib.itoa l.arg.v : List UInt8) == []) = false := rfl
      simp only [if_neg h0, if_pos h1, e0, ec]; cases l.lab == [] <;> cases isName l.lab <;> cases l.op == [] <;> cases isName l.op <;> cases (l.arg.nm == [] && within l.arg.v) <;> rfl
    · by_cases h2 : l.arg.k = 2
      · have ec : ((32 :: l.arg.nm ++ (if 0 < l.arg.v then [43] else []) ++ (if l.arg.v = 0 then [] else Lib.itoa l.arg.v) : List UInt8) == []) = false := rfl
        simp only [if_neg h0, if_neg h1, if_pos h2, e0, ec]; cases l.lab == [] <;> cases isName l.lab <;> cases l.op == [] <;> cases isName l.op <;> cases (isName l.arg.nm && within l.arg.v) <;> rfl
      · simp only [if_neg h0, if_neg h1, if_neg h2, Bool.not_false, Bool.true_or, Bool.and_false]
def hd (l : Line) : List UInt8 := if l.op = [] then l.lab else l.lab ++ [32] ++ l.op
def tl (a : Arg) : List UInt8 :=
  if a.k = 0 then [] else if a.k = 1 then [32] ++ Lib.itoa a.v else if a.k = 2 then [32] ++ a.nm ++ (if 0 < a.v then [43] else []) ++ (if a.v = 0 then [] else Lib.itoa a.v) else []
theorem print_may (l : Line) : print l = if (!(mayB l)) = true then ([], 2) else (hd l ++ tl l.arg, 0) := by
  rw [print, bad_may]
  cases hm : mayB l with
  | false => rfl
  | true =>
    simp only [Bool.not_true, Bool.false_eq_true, if_false]
    by_cases hop : l.op = []
    · have hk : l.arg.k = 0 := by
        unfold mayB at hm
        simp only [Bool.and_eq_true, Bool.not_eq_true', Bool.or_eq_false_iff] at hm
        have := hm.1.2
        rw [hop] at this
        simpa using this
      simp [hop, hd, tl, hk]
    · have e : (l.op == []) = false := by simpa using hop
      have eo : (opStr l.arg).1 = tl l.arg := by
        unfold opStr tl
        split
        · rfl
        · split
          · rfl
          · split
            · rfl
            · rfl
      simp only [e, hd, if_neg hop, eo, Bool.false_eq_true, if_false]
theorem tk48 (l : Line) (h : LineB l) : PureCall Tryd.prog 41 [l.av] (bb (mayB l)) := by
  obtain ⟨h1, h2, h3, h4⟩ := h
  have hlab : B62 l.lab := by unfold B62; omega
  have hop : B62 l.op := by unfold B62; omega
  have hnm : B62 l.arg.nm := by unfold B62; omega
  refine PureCall.run tab_ok mixed (by kernel_rfl) Tryd.func41 rfl rfl rfl ?_
  conv => whnf
  repeat (first | ((with_reducible first | apply ga | apply gb | apply gc | apply gd | apply ge | apply gf | apply gg | apply gh | apply gi | apply gj); conv => whnf) | (refine ⟨⟨rfl, rfl, nle rfl, nle rfl⟩, ?_⟩; conv => whnf) | fail)
  repeat' (first | ((with_reducible first | apply ga | apply gb | apply gc | apply gd | apply ge | apply gf | apply gg | apply gh | apply gi | apply gj); conv => whnf) | (refine ⟨⟨rfl, rfl, nle rfl, nle rfl⟩, ?_⟩; conv => whnf) | (refine CallK.flat [] (tk17 l.lab hlab) ⟨.same, trivial⟩ rfl ?_; conv => whnf) | (refine CallK.flat [] (tk17 l.op hop) ⟨.same, trivial⟩ rfl ?_; conv => whnf) | (refine CallK.flat [] (tk17 l.arg.nm hnm) ⟨.same, trivial⟩ rfl ?_; conv => whnf) | (refine CallK.flat [] (tk59 l.arg.v) ⟨.same, trivial⟩ rfl ?_; conv => whnf) | (refine ⟨fun hc => ?_, fun hc => ?_⟩ <;> (conv => whnf)) | fail)
  all_goals (refine done_bool _ _ rfl rfl ?_; simp_all [mayB])
set_option maxHeartbeats 2000000 in
theorem tk24 (l : Line) (h : LineB l) : PureCall Tryd.prog 30 [l.av] (prT (print l)) := by
  have hB := h
  obtain ⟨h1, h2, h3, h4⟩ := h
  have hil := itoa_len h4
  refine PureCall.run tab_ok mixed (by kernel_rfl) Tryd.func30 rfl rfl rfl ?_
  conv => whnf
  repeat (first | ((with_reducible first | apply ga | apply gb | apply gc | apply gd | apply ge | apply gf | apply gg | apply gh | apply gi | apply gj); conv => whnf) | (refine ⟨⟨rfl, rfl, nle rfl, nle rfl⟩, ?_⟩; conv => whnf) | fail)
  refine CallK.flat [] (tk48 l hB) ⟨agg5 .same .same .same .same .same, trivial⟩ rfl ?_
  conv => whnf
  repeat (first | ((with_reducible first | apply ga | apply gb | apply gc | apply gd | apply ge | apply gf | apply gg | apply gh | apply gi | apply gj); conv => whnf) | (refine ⟨⟨rfl, rfl, nle rfl, nle rfl⟩, ?_⟩; conv => whnf) | fail)
  refine ⟨fun hm => ?_, fun hm => ?_⟩ <;> replace hm := nm hm <;> (try simp only [Int.toNat_zero] at hm) <;> (try simp only [Int.toNat_one] at hm)
  · conv => whnf
    repeat (first | ((with_reducible first | apply ga | apply gb | apply gc | apply gd | apply ge | apply gf | apply gg | apply gh | apply gi | apply gj); conv => whnf) | (refine ⟨⟨rfl, rfl, nle rfl, nle rfl⟩, ?_⟩; conv => whnf) | fail)
    have hO : print l = ([], 2) := by rw [print_may, if_pos (by rw [hm]; decide)]
    rw [hO]
    exact done_tup [st [], i64 2] [] rfl ⟨.same, .same, trivial⟩
  · have hw1 : l.arg.k = 1 → within l.arg.v = true := fun hk => by
      unfold mayB at hm
      rw [hk, if_neg (by decide), if_pos rfl] at hm
      simp only [Bool.and_eq_true] at hm
      exact hm.2.2
    have hw2 : l.arg.k = 2 → within l.arg.v = true := fun hk => by
      unfold mayB at hm
      rw [hk, if_neg (by decide), if_neg (by decide), if_pos rfl] at hm
      simp only [Bool.and_eq_true] at hm
      exact hm.2.2
    conv => whnf
    repeat (first | ((with_reducible first | apply ga | apply gb | apply gc | apply gd | apply ge | apply gf | apply gg | apply gh | apply gi | apply gj); conv => whnf) | (refine ⟨⟨rfl, rfl, nle rfl, nle rfl⟩, ?_⟩; conv => whnf) | fail)
    refine ⟨fun hop => ?_, fun hop => ?_⟩ <;> replace hop := nm hop <;> (try simp only [Int.toNat_zero] at hop) <;> (try simp only [Int.toNat_one] at hop)
    · conv => whnf
      repeat (first | ((with_reducible first | apply ga | apply gb | apply gc | apply gd | apply ge | apply gf | apply gg | apply gh | apply gi | apply gj); conv => whnf) | (refine ⟨⟨rfl, rfl, nle rfl, nle rfl⟩, ?_⟩; conv => whnf) | fail)
      refine ⟨⟨by simp only [List.length_append, List.length_cons, List.length_nil]; omega⟩, ?_⟩
      conv => whnf
      repeat (first | ((with_reducible first | apply ga | apply gb | apply gc | apply gd | apply ge | apply gf | apply gg | apply gh | apply gi | apply gj); conv => whnf) | (refine ⟨⟨rfl, rfl, nle rfl, nle rfl⟩, ?_⟩; conv => whnf) | fail)
      refine ⟨⟨by simp only [List.length_append, List.length_cons, List.length_nil]; omega⟩, ?_⟩
      conv => whnf
      repeat (first | ((with_reducible first | apply ga | apply gb | apply gc | apply gd | apply ge | apply gf | apply gg | apply gh | apply gi | apply gj); conv => whnf) | (refine ⟨⟨rfl, rfl, nle rfl, nle rfl⟩, ?_⟩; conv => whnf) | fail)
      refine ⟨fun k1 => ?_, fun k1 => ?_⟩ <;> replace k1 := nm k1 <;> (try simp only [Int.toNat_zero] at k1) <;> (try simp only [Int.toNat_one] at k1)
      · conv => whnf
        repeat (first | ((with_reducible first | apply ga | apply gb | apply gc | apply gd | apply ge | apply gf | apply gg | apply gh | apply gi | apply gj); conv => whnf) | (refine ⟨⟨rfl, rfl, nle rfl, nle rfl⟩, ?_⟩; conv => whnf) | fail)
        refine ⟨⟨by simp only [List.length_append, List.length_cons, List.length_nil]; omega⟩, ?_⟩
        conv => whnf
        repeat (first | ((with_reducible first | apply ga | apply gb | apply gc | apply gd | apply ge | apply gf | apply gg | apply gh | apply gi | apply gj); conv => whnf) | (refine ⟨⟨rfl, rfl, nle rfl, nle rfl⟩, ?_⟩; conv => whnf) | fail)
        refine CallK.flat [] (tk27 l.arg.v (hw1 k1)) ⟨.same, trivial⟩ rfl ?_
        conv => whnf
        repeat (first | ((with_reducible first | apply ga | apply gb | apply gc | apply gd | apply ge | apply gf | apply gg | apply gh | apply gi | apply gj); conv => whnf) | (refine ⟨⟨rfl, rfl, nle rfl, nle rfl⟩, ?_⟩; conv => whnf) | fail)
        refine ⟨⟨by simp only [List.length_append, List.length_cons, List.length_nil]; omega⟩, ?_⟩
        conv => whnf
        repeat (first | ((with_reducible first | apply ga | apply gb | apply gc | apply gd | apply ge | apply gf | apply gg | apply gh | apply gi | apply gj); conv => whnf) | (refine ⟨⟨rfl, rfl, nle rfl, nle rfl⟩, ?_⟩; conv => whnf) | fail)
        refine ⟨fun e => absurd (((beq_eq_false_iff_ne.mpr (by omega) : (l.arg.k == 2) = false)).symm.trans e) (by decide), fun _ => ?_⟩
        conv => whnf
        repeat (first | ((with_reducible first | apply ga | apply gb | apply gc | apply gd | apply ge | apply gf | apply gg | apply gh | apply gi | apply gj); conv => whnf) | (refine ⟨⟨rfl, rfl, nle rfl, nle rfl⟩, ?_⟩; conv => whnf) | fail)
        have hO : print l = (l.lab ++ [32] ++ l.op ++ [32] ++ Lib.itoa l.arg.v, 0) := by
          rw [print_may, if_neg (by rw [hm]; decide)]
          simp only [hd, if_neg hop, tl, if_neg (show ¬ l.arg.k = 0 by omega), if_pos k1, List.append_nil, List.append_assoc]
        rw [hO]
        exact done_tup [st (l.lab ++ [32] ++ l.op ++ [32] ++ Lib.itoa l.arg.v), i64 0] [] rfl ⟨.same, .same, trivial⟩
      · conv => whnf
        repeat (first | ((with_reducible first | apply ga | apply gb | apply gc | apply gd | apply ge | apply gf | apply gg | apply gh | apply gi | apply gj); conv => whnf) | (refine ⟨⟨rfl, rfl, nle rfl, nle rfl⟩, ?_⟩; conv => whnf) | fail)
        refine ⟨fun k2 => ?_, fun k2 => ?_⟩ <;> replace k2 := nm k2 <;> (try simp only [Int.toNat_zero] at k2) <;> (try simp only [Int.toNat_one] at k2)
        · conv => whnf
          repeat (first | ((with_reducible first | apply ga | apply gb | apply gc | apply gd | apply ge | apply gf | apply gg | apply gh | apply gi | apply gj); conv => whnf) | (refine ⟨⟨rfl, rfl, nle rfl, nle rfl⟩, ?_⟩; conv => whnf) | fail)
          refine ⟨⟨by simp only [List.length_append, List.length_cons, List.length_nil]; omega⟩, ?_⟩
          conv => whnf
          repeat (first | ((with_reducible first | apply ga | apply gb | apply gc | apply gd | apply ge | apply gf | apply gg | apply gh | apply gi | apply gj); conv => whnf) | (refine ⟨⟨rfl, rfl, nle rfl, nle rfl⟩, ?_⟩; conv => whnf) | fail)
          refine ⟨⟨by simp only [List.length_append, List.length_cons, List.length_nil]; omega⟩, ?_⟩
          conv => whnf
          repeat (first | ((with_reducible first | apply ga | apply gb | apply gc | apply gd | apply ge | apply gf | apply gg | apply gh | apply gi | apply gj); conv => whnf) | (refine ⟨⟨rfl, rfl, nle rfl, nle rfl⟩, ?_⟩; conv => whnf) | fail)
          refine ⟨fun hp => ?_, fun hp => ?_⟩ <;> replace hp := nm hp <;> (try simp only [Int.toNat_zero] at hp) <;> (try simp only [Int.toNat_one] at hp)
          · conv => whnf
            repeat (first | ((with_reducible first | apply ga | apply gb | apply gc | apply gd | apply ge | apply gf | apply gg | apply gh | apply gi | apply gj); conv => whnf) | (refine ⟨⟨rfl, rfl, nle rfl, nle rfl⟩, ?_⟩; conv => whnf) | fail)
            refine ⟨⟨by simp only [List.length_append, List.length_cons, List.length_nil]; omega⟩, ?_⟩
            conv => whnf
            repeat (first | ((with_reducible first | apply ga | apply gb | apply gc | apply gd | apply ge | apply gf | apply gg | apply gh | apply gi | apply gj); conv => whnf) | (refine ⟨⟨rfl, rfl, nle rfl, nle rfl⟩, ?_⟩; conv => whnf) | fail)
            refine ⟨fun hz => ?_, fun hz => ?_⟩ <;> replace hz := nm hz <;> (try simp only [Int.toNat_zero] at hz) <;> (try simp only [Int.toNat_one] at hz)
            · conv => whnf
              repeat (first | ((with_reducible first | apply ga | apply gb | apply gc | apply gd | apply ge | apply gf | apply gg | apply gh | apply gi | apply gj); conv => whnf) | (refine ⟨⟨rfl, rfl, nle rfl, nle rfl⟩, ?_⟩; conv => whnf) | fail)
              refine CallK.flat [] (tk27 l.arg.v (hw2 k2)) ⟨.same, trivial⟩ rfl ?_
              conv => whnf
              repeat (first | ((with_reducible first | apply ga | apply gb | apply gc | apply gd | apply ge | apply gf | apply gg | apply gh | apply gi | apply gj); conv => whnf) | (refine ⟨⟨rfl, rfl, nle rfl, nle rfl⟩, ?_⟩; conv => whnf) | fail)
              refine ⟨⟨by simp only [List.length_append, List.length_cons, List.length_nil]; omega⟩, ?_⟩
              conv => whnf
              repeat (first | ((with_reducible first | apply ga | apply gb | apply gc | apply gd | apply ge | apply gf | apply gg | apply gh | apply gi | apply gj); conv => whnf) | (refine ⟨⟨rfl, rfl, nle rfl, nle rfl⟩, ?_⟩; conv => whnf) | fail)
              have hO : print l = (l.lab ++ [32] ++ l.op ++ [32] ++ l.arg.nm ++ [43] ++ Lib.itoa l.arg.v, 0) := by
                rw [print_may, if_neg (by rw [hm]; decide)]
                simp only [hd, if_neg hop, tl, if_neg (show ¬ l.arg.k = 0 by omega), if_neg k1, if_pos k2, if_pos hp, if_neg hz, List.append_nil, List.append_assoc]
              rw [hO]
              exact done_tup [st (l.lab ++ [32] ++ l.op ++ [32] ++ l.arg.nm ++ [43] ++ Lib.itoa l.arg.v), i64 0] [] rfl ⟨.same, .same, trivial⟩
            · exfalso; omega
          · conv => whnf
            repeat (first | ((with_reducible first | apply ga | apply gb | apply gc | apply gd | apply ge | apply gf | apply gg | apply gh | apply gi | apply gj); conv => whnf) | (refine ⟨⟨rfl, rfl, nle rfl, nle rfl⟩, ?_⟩; conv => whnf) | fail)
            refine ⟨fun hz => ?_, fun hz => ?_⟩ <;> replace hz := nm hz <;> (try simp only [Int.toNat_zero] at hz) <;> (try simp only [Int.toNat_one] at hz)
            · conv => whnf
              repeat (first | ((with_reducible first | apply ga | apply gb | apply gc | apply gd | apply ge | apply gf | apply gg | apply gh | apply gi | apply gj); conv => whnf) | (refine ⟨⟨rfl, rfl, nle rfl, nle rfl⟩, ?_⟩; conv => whnf) | fail)
              refine CallK.flat [] (tk27 l.arg.v (hw2 k2)) ⟨.same, trivial⟩ rfl ?_
              conv => whnf
              repeat (first | ((with_reducible first | apply ga | apply gb | apply gc | apply gd | apply ge | apply gf | apply gg | apply gh | apply gi | apply gj); conv => whnf) | (refine ⟨⟨rfl, rfl, nle rfl, nle rfl⟩, ?_⟩; conv => whnf) | fail)
              refine ⟨⟨by simp only [List.length_append, List.length_cons, List.length_nil]; omega⟩, ?_⟩
              conv => whnf
              repeat (first | ((with_reducible first | apply ga | apply gb | apply gc | apply gd | apply ge | apply gf | apply gg | apply gh | apply gi | apply gj); conv => whnf) | (refine ⟨⟨rfl, rfl, nle rfl, nle rfl⟩, ?_⟩; conv => whnf) | fail)
              have hO : print l = (l.lab ++ [32] ++ l.op ++ [32] ++ l.arg.nm ++ Lib.itoa l.arg.v, 0) := by
                rw [print_may, if_neg (by rw [hm]; decide)]
                simp only [hd, if_neg hop, tl, if_neg (show ¬ l.arg.k = 0 by omega), if_neg k1, if_pos k2, if_neg (Int.not_lt.mpr hp), if_neg hz, List.append_nil, List.append_assoc]
              rw [hO]
              exact done_tup [st (l.lab ++ [32] ++ l.op ++ [32] ++ l.arg.nm ++ Lib.itoa l.arg.v), i64 0] [] rfl ⟨.same, .same, trivial⟩
            · conv => whnf
              repeat (first | ((with_reducible first | apply ga | apply gb | apply gc | apply gd | apply ge | apply gf | apply gg | apply gh | apply gi | apply gj); conv => whnf) | (refine ⟨⟨rfl, rfl, nle rfl, nle rfl⟩, ?_⟩; conv => whnf) | fail)
              have hO : print l = (l.lab ++ [32] ++ l.op ++ [32] ++ l.arg.nm, 0) := by
                rw [print_may, if_neg (by rw [hm]; decide)]
                simp only [hd, if_neg hop, tl, if_neg (show ¬ l.arg.k = 0 by omega), if_neg k1, if_pos k2, if_neg (Int.not_lt.mpr hp), if_pos hz, List.append_nil, List.append_assoc]
              rw [hO]
              exact done_tup [st (l.lab ++ [32] ++ l.op ++ [32] ++ l.arg.nm), i64 0] [] rfl ⟨.same, .same, trivial⟩
        · conv => whnf
          repeat (first | ((with_reducible first | apply ga | apply gb | apply gc | apply gd | apply ge | apply gf | apply gg | apply gh | apply gi | apply gj); conv => whnf) | (refine ⟨⟨rfl, rfl, nle rfl, nle rfl⟩, ?_⟩; conv => whnf) | fail)
          have hO : print l = (l.lab ++ [32] ++ l.op, 0) := by
            rw [print_may, if_neg (by rw [hm]; decide)]
            simp only [hd, if_neg hop, tl, if_neg k1, if_neg k2, ite_self, List.append_nil, List.append_assoc]
          rw [hO]
          exact done_tup [st (l.lab ++ [32] ++ l.op), i64 0] [] rfl ⟨.same, .same, trivial⟩
    · conv => whnf
      repeat (first | ((with_reducible first | apply ga | apply gb | apply gc | apply gd | apply ge | apply gf | apply gg | apply gh | apply gi | apply gj); conv => whnf) | (refine ⟨⟨rfl, rfl, nle rfl, nle rfl⟩, ?_⟩; conv => whnf) | fail)
      refine ⟨fun k1 => ?_, fun k1 => ?_⟩ <;> replace k1 := nm k1 <;> (try simp only [Int.toNat_zero] at k1) <;> (try simp only [Int.toNat_one] at k1)
      · conv => whnf
        repeat (first | ((with_reducible first | apply ga | apply gb | apply gc | apply gd | apply ge | apply gf | apply gg | apply gh | apply gi | apply gj); conv => whnf) | (refine ⟨⟨rfl, rfl, nle rfl, nle rfl⟩, ?_⟩; conv => whnf) | fail)
        refine ⟨⟨by simp only [List.length_append, List.length_cons, List.length_nil]; omega⟩, ?_⟩
        conv => whnf
        repeat (first | ((with_reducible first | apply ga | apply gb | apply gc | apply gd | apply ge | apply gf | apply gg | apply gh | apply gi | apply gj); conv => whnf) | (refine ⟨⟨rfl, rfl, nle rfl, nle rfl⟩, ?_⟩; conv => whnf) | fail)
        refine CallK.flat [] (tk27 l.arg.v (hw1 k1)) ⟨.same, trivial⟩ rfl ?_
        conv => whnf
        repeat (first | ((with_reducible first | apply ga | apply gb | apply gc | apply gd | apply ge | apply gf | apply gg | apply gh | apply gi | apply gj); conv => whnf) | (refine ⟨⟨rfl, rfl, nle rfl, nle rfl⟩, ?_⟩; conv => whnf) | fail)
        refine ⟨⟨by simp only [List.length_append, List.length_cons, List.length_nil]; omega⟩, ?_⟩
        conv => whnf
        repeat (first | ((with_reducible first | apply ga | apply gb | apply gc | apply gd | apply ge | apply gf | apply gg | apply gh | apply gi | apply gj); conv => whnf) | (refine ⟨⟨rfl, rfl, nle rfl, nle rfl⟩, ?_⟩; conv => whnf) | fail)
        refine ⟨fun e => absurd (((beq_eq_false_iff_ne.mpr (by omega) : (l.arg.k == 2) = false)).symm.trans e) (by decide), fun _ => ?_⟩
        conv => whnf
        repeat (first | ((with_reducible first | apply ga | apply gb | apply gc | apply gd | apply ge | apply gf | apply gg | apply gh | apply gi | apply gj); conv => whnf) | (refine ⟨⟨rfl, rfl, nle rfl, nle rfl⟩, ?_⟩; conv => whnf) | fail)
        have hO : print l = (l.lab ++ [32] ++ Lib.itoa l.arg.v, 0) := by
          rw [print_may, if_neg (by rw [hm]; decide)]
          simp only [hd, if_pos hop, tl, if_neg (show ¬ l.arg.k = 0 by omega), if_pos k1, List.append_nil, List.append_assoc]
        rw [hO]
        exact done_tup [st (l.lab ++ [32] ++ Lib.itoa l.arg.v), i64 0] [] rfl ⟨.same, .same, trivial⟩
      · conv => whnf
        repeat (first | ((with_reducible first | apply ga | apply gb | apply gc | apply gd | apply ge | apply gf | apply gg | apply gh | apply gi | apply gj); conv => whnf) | (refine ⟨⟨rfl, rfl, nle rfl, nle rfl⟩, ?_⟩; conv => whnf) | fail)
        refine ⟨fun k2 => ?_, fun k2 => ?_⟩ <;> replace k2 := nm k2 <;> (try simp only [Int.toNat_zero] at k2) <;> (try simp only [Int.toNat_one] at k2)
        · conv => whnf
          repeat (first | ((with_reducible first | apply ga | apply gb | apply gc | apply gd | apply ge | apply gf | apply gg | apply gh | apply gi | apply gj); conv => whnf) | (refine ⟨⟨rfl, rfl, nle rfl, nle rfl⟩, ?_⟩; conv => whnf) | fail)
          refine ⟨⟨by simp only [List.length_append, List.length_cons, List.length_nil]; omega⟩, ?_⟩
          conv => whnf
          repeat (first | ((with_reducible first | apply ga | apply gb | apply gc | apply gd | apply ge | apply gf | apply gg | apply gh | apply gi | apply gj); conv => whnf) | (refine ⟨⟨rfl, rfl, nle rfl, nle rfl⟩, ?_⟩; conv => whnf) | fail)
          refine ⟨⟨by simp only [List.length_append, List.length_cons, List.length_nil]; omega⟩, ?_⟩
          conv => whnf
          repeat (first | ((with_reducible first | apply ga | apply gb | apply gc | apply gd | apply ge | apply gf | apply gg | apply gh | apply gi | apply gj); conv => whnf) | (refine ⟨⟨rfl, rfl, nle rfl, nle rfl⟩, ?_⟩; conv => whnf) | fail)
          refine ⟨fun hp => ?_, fun hp => ?_⟩ <;> replace hp := nm hp <;> (try simp only [Int.toNat_zero] at hp) <;> (try simp only [Int.toNat_one] at hp)
          · conv => whnf
            repeat (first | ((with_reducible first | apply ga | apply gb | apply gc | apply gd | apply ge | apply gf | apply gg | apply gh | apply gi | apply gj); conv => whnf) | (refine ⟨⟨rfl, rfl, nle rfl, nle rfl⟩, ?_⟩; conv => whnf) | fail)
            refine ⟨⟨by simp only [List.length_append, List.length_cons, List.length_nil]; omega⟩, ?_⟩
            conv => whnf
            repeat (first | ((with_reducible first | apply ga | apply gb | apply gc | apply gd | apply ge | apply gf | apply gg | apply gh | apply gi | apply gj); conv => whnf) | (refine ⟨⟨rfl, rfl, nle rfl, nle rfl⟩, ?_⟩; conv => whnf) | fail)
            refine ⟨fun hz => ?_, fun hz => ?_⟩ <;> replace hz := nm hz <;> (try simp only [Int.toNat_zero] at hz) <;> (try simp only [Int.toNat_one] at hz)
            · conv => whnf
              repeat (first | ((with_reducible first | apply ga | apply gb | apply gc | apply gd | apply ge | apply gf | apply gg | apply gh | apply gi | apply gj); conv => whnf) | (refine ⟨⟨rfl, rfl, nle rfl, nle rfl⟩, ?_⟩; conv => whnf) | fail)
              refine CallK.flat [] (tk27 l.arg.v (hw2 k2)) ⟨.same, trivial⟩ rfl ?_
              conv => whnf
              repeat (first | ((with_reducible first | apply ga | apply gb | apply gc | apply gd | apply ge | apply gf | apply gg | apply gh | apply gi | apply gj); conv => whnf) | (refine ⟨⟨rfl, rfl, nle rfl, nle rfl⟩, ?_⟩; conv => whnf) | fail)
              refine ⟨⟨by simp only [List.length_append, List.length_cons, List.length_nil]; omega⟩, ?_⟩
              conv => whnf
              repeat (first | ((with_reducible first | apply ga | apply gb | apply gc | apply gd | apply ge | apply gf | apply gg | apply gh | apply gi | apply gj); conv => whnf) | (refine ⟨⟨rfl, rfl, nle rfl, nle rfl⟩, ?_⟩; conv => whnf) | fail)
              have hO : print l = (l.lab ++ [32] ++ l.arg.nm ++ [43] ++ Lib.itoa l.arg.v, 0) := by
                rw [print_may, if_neg (by rw [hm]; decide)]
                simp only [hd, if_pos hop, tl, if_neg (show ¬ l.arg.k = 0 by omega), if_neg k1, if_pos k2, if_pos hp, if_neg hz, List.append_nil, List.append_assoc]
              rw [hO]
              exact done_tup [st (l.lab ++ [32] ++ l.arg.nm ++ [43] ++ Lib.itoa l.arg.v), i64 0] [] rfl ⟨.same, .same, trivial⟩
            · exfalso; omega
          · conv => whnf
            repeat (first | ((with_reducible first | apply ga | apply gb | apply gc | apply gd | apply ge | apply gf | apply gg | apply gh | apply gi | apply gj); conv => whnf) | (refine ⟨⟨rfl, rfl, nle rfl, nle rfl⟩, ?_⟩; conv => whnf) | fail)
            refine ⟨fun hz => ?_, fun hz => ?_⟩ <;> replace hz := nm hz <;> (try simp only [Int.toNat_zero] at hz) <;> (try simp only [Int.toNat_one] at hz)
            · conv => whnf
              repeat (first | ((with_reducible first | apply ga | apply gb | apply gc | apply gd | apply ge | apply gf | apply gg | apply gh | apply gi | apply gj); conv => whnf) | (refine ⟨⟨rfl, rfl, nle rfl, nle rfl⟩, ?_⟩; conv => whnf) | fail)
              refine CallK.flat [] (tk27 l.arg.v (hw2 k2)) ⟨.same, trivial⟩ rfl ?_
              conv => whnf
              repeat (first | ((with_reducible first | apply ga | apply gb | apply gc | apply gd | apply ge | apply gf | apply gg | apply gh | apply gi | apply gj); conv => whnf) | (refine ⟨⟨rfl, rfl, nle rfl, nle rfl⟩, ?_⟩; conv => whnf) | fail)
              refine ⟨⟨by simp only [List.length_append, List.length_cons, List.length_nil]; omega⟩, ?_⟩
              conv => whnf
              repeat (first | ((with_reducible first | apply ga | apply gb | apply gc | apply gd | apply ge | apply gf | apply gg | apply gh | apply gi | apply gj); conv => whnf) | (refine ⟨⟨rfl, rfl, nle rfl, nle rfl⟩, ?_⟩; conv => whnf) | fail)
              have hO : print l = (l.lab ++ [32] ++ l.arg.nm ++ Lib.itoa l.arg.v, 0) := by
                rw [print_may, if_neg (by rw [hm]; decide)]
                simp only [hd, if_pos hop, tl, if_neg (show ¬ l.arg.k = 0 by omega), if_neg k1, if_pos k2, if_neg (Int.not_lt.mpr hp), if_neg hz, List.append_nil, List.append_assoc]
              rw [hO]
              exact done_tup [st (l.lab ++ [32] ++ l.arg.nm ++ Lib.itoa l.arg.v), i64 0] [] rfl ⟨.same, .same, trivial⟩
            · conv => whnf
              repeat (first | ((with_reducible first | apply ga | apply gb | apply gc | apply gd | apply ge | apply gf | apply gg | apply gh | apply gi | apply gj); conv => whnf) | (refine ⟨⟨rfl, rfl, nle rfl, nle rfl⟩, ?_⟩; conv => whnf) | fail)
              have hO : print l = (l.lab ++ [32] ++ l.arg.nm, 0) := by
                rw [print_may, if_neg (by rw [hm]; decide)]
                simp only [hd, if_pos hop, tl, if_neg (show ¬ l.arg.k = 0 by omega), if_neg k1, if_pos k2, if_neg (Int.not_lt.mpr hp), if_pos hz, List.append_nil, List.append_assoc]
              rw [hO]
              exact done_tup [st (l.lab ++ [32] ++ l.arg.nm), i64 0] [] rfl ⟨.same, .same, trivial⟩
        · conv => whnf
          repeat (first | ((with_reducible first | apply ga | apply gb | apply gc | apply gd | apply ge | apply gf | apply gg | apply gh | apply gi | apply gj); conv => whnf) | (refine ⟨⟨rfl, rfl, nle rfl, nle rfl⟩, ?_⟩; conv => whnf) | fail)
          have hO : print l = (l.lab, 0) := by
            rw [print_may, if_neg (by rw [hm]; decide)]
            simp only [hd, if_pos hop, tl, if_neg k1, if_neg k2, ite_self, List.append_nil, List.append_assoc]
          rw [hO]
          exact done_tup [st (l.lab), i64 0] [] rfl ⟨.same, .same, trivial⟩
theorem val_app (base : Int) : ∀ (s t : List UInt8) (n : Int), val base n (s ++ t) = (val base n s).bind fun m => val base m t
  | [], t, n => rfl
  | c :: s, t, n => by
    rw [List.cons_append, val, val]
    split
    · exact val_app base s t _
    · rfl
theorem dig_toNat {u : Nat} (h : u < 10) : (UInt8.ofNat (48 + u)).toNat = 48 + u := by
  rw [UInt8.toNat_ofNat']; omega
/-- The numeral's digits read as the number, held at 65536. -/
theorem val_dec (u : Nat) : val 10 0 (Lib.decDigits u) = some (min (u : Int) 65536) := by
  induction u using Nat.strongRecOn with
  | ind u ih =>
    by_cases h : u < 10
    · rw [Lib.decDigits_one h, val, val, dig_toNat h, if_pos (by omega)]
      congr 1; omega
    · rw [Lib.decDigits, dif_neg h, val_app, ih (u / 10) (by omega), Option.bind_some, val, val, dig_toNat (by omega), if_pos (by omega)]
      congr 1; omega
theorem dec_pos (u : Nat) : Lib.decDigits u ≠ [] := by
  intro h
  have := Lib.decDigits_length u
  rw [h] at this
  have := Lib.nDigits_pos u
  simp at *; omega
/-- The first digit of a number above 0 is none. -/
theorem dec_head (u : Nat) (hu : 0 < u) : ∃ d r, Lib.decDigits u = d :: r ∧ 49 ≤ d.toNat ∧ d.toNat ≤ 57 := by
  induction u using Nat.strongRecOn with
  | ind u ih =>
    by_cases h : u < 10
    · exact ⟨_, [], Lib.decDigits_one h, by rw [dig_toNat h]; omega, by rw [dig_toNat h]; omega⟩
    · obtain ⟨d, r, h1, h2, h3⟩ := ih (u / 10) (by omega) (by omega)
      refine ⟨d, r ++ [UInt8.ofNat (48 + u % 10)], ?_, h2, h3⟩
      rw [Lib.decDigits, dif_neg h, h1]; rfl
theorem dec_digit (u : Nat) : ∀ c ∈ Lib.decDigits u, 48 ≤ c.toNat ∧ c.toNat ≤ 57 := by
  induction u using Nat.strongRecOn with
  | ind u ih =>
    by_cases h : u < 10
    · intro c hc
      rw [Lib.decDigits_one h, List.mem_singleton] at hc
      rw [hc, dig_toNat h]; omega
    · intro c hc
      rw [Lib.decDigits, dif_neg h] at hc
      rcases List.mem_append.mp hc with hc | hc
      · exact ih (u / 10) (by omega) c hc
      · rw [List.mem_singleton] at hc
        rw [hc, dig_toNat (by omega)]; omega
theorem numV_dec (u : Nat) : numV (Lib.decDigits u) = some (min (u : Int) 65536) := by
  rw [numV_eq, show valN 10 (Lib.decDigits u) = some (min (u : Int) 65536) by
    unfold valN; rw [if_neg (by simpa using dec_pos u)]; exact val_dec u]
  rcases Nat.eq_zero_or_pos u with rfl | hu
  · rw [Lib.decDigits_one (by omega)]; rfl
  · obtain ⟨d, r, h1, h2, h3⟩ := dec_head u hu
    have h48 : ((((Lib.decDigits u).getD 0 0).toNat : Int) == 48) = false := by rw [h1]; simp; omega
    rw [h48, Bool.and_false]; rfl
theorem num_dec (u : Nat) (hu : u ≤ 65535) : num (Lib.decDigits u) = ((u : Int), 0) := by
  have e2 : [45].isPrefixOf (Lib.decDigits u) = false := by
    cases hd : Lib.decDigits u with
    | nil => rfl
    | cons d r =>
      have h := dec_digit u d (by rw [hd]; simp)
      have : ¬ (45 : UInt8) = d := fun e => by subst e; revert h; decide
      simp [List.isPrefixOf, this]
  have e1 : cutP [45] (Lib.decDigits u) = Lib.decDigits u := by unfold cutP; rw [e2]; rfl
  unfold num
  rw [e1, e2, numV_dec]
  unfold numR
  simp only [show min (u : Int) 65536 = u by omega, Bool.false_and, Bool.false_eq_true, if_false, if_neg (show ¬ 65535 < (u : Int) by omega)]
theorem itoa_negd (u : Nat) (hu : 0 < u) : Lib.itoa (-(u : Int)) = 45 :: Lib.decDigits u := by
  rw [Lib.itoa_neg u (by omega)]
theorem num_neg (u : Nat) (h0 : 0 < u) (hu : u ≤ 65535) : num (45 :: Lib.decDigits u) = (-(u : Int), 0) := by
  have e1 : cutP [45] (45 :: Lib.decDigits u) = Lib.decDigits u := by simp [cutP]
  have e2 : [45].isPrefixOf (45 :: Lib.decDigits u) = true := by simp
  unfold num
  rw [e1, e2, numV_dec]
  have e3 : ((u : Int) == 0) = false := by simp; omega
  unfold numR
  simp only [show min (u : Int) 65536 = u by omega, e3, Bool.and_false, Bool.false_eq_true, if_false, if_neg (show ¬ 65535 < (u : Int) by omega), if_true]
theorem num_itoa (n : Int) (h : within n = true) : num (Lib.itoa n) = (n, 0) := by
  have hw : -65535 ≤ n ∧ n ≤ 65535 := by simpa [within] using h
  by_cases hn : n < 0
  · obtain ⟨u, rfl⟩ : ∃ u : Nat, n = -(u : Int) := ⟨n.natAbs, by omega⟩
    rw [itoa_negd u (by omega), num_neg u (by omega) (by omega)]
  · obtain ⟨u, rfl⟩ : ∃ u : Nat, n = u := ⟨n.toNat, by omega⟩
    rw [Lib.itoa_nonneg, num_dec u (by omega)]
theorem tw_all {p : UInt8 → Bool} {s : List UInt8} (h : ∀ c ∈ s, p c = true) : s.takeWhile p = s := by
  have := List.takeWhile_append_of_pos (l₂ := []) h
  simpa using this
theorem tw_mem {p : UInt8 → Bool} : ∀ {s : List UInt8} {c : UInt8}, c ∈ s.takeWhile p → p c = true
  | [], c, h => by simp at h
  | d :: s, c, h => by
    cases hp : p d with
    | false => simp [hp] at h
    | true =>
      simp only [List.takeWhile_cons, hp, if_true] at h
      rcases List.mem_cons.mp h with rfl | h
      · exact hp
      · exact tw_mem h
/-- Neither a blank nor the mark of a comment. -/
def okc (c : UInt8) : Prop := blank c = false ∧ c ≠ 35 ∧ c ≠ 10
theorem inner_ok {c : UInt8} (h : inner c = true) : okc c := by
  constructor
  · unfold inner letter digit at h
    unfold blank
    simp only [Bool.or_eq_true, Bool.and_eq_true, decide_eq_true_eq, beq_iff_eq] at h
    simp only [Bool.or_eq_false_iff, beq_eq_false_iff_ne]
    omega
  · exact ⟨fun e => by subst e; revert h; decide, fun e => by subst e; revert h; decide⟩
theorem digit_ok {c : UInt8} (h : 48 ≤ c.toNat ∧ c.toNat ≤ 57) : okc c := by
  constructor
  · unfold blank
    simp only [Bool.or_eq_false_iff, beq_eq_false_iff_ne]
    omega
  · exact ⟨fun e => by subst e; revert h; decide, fun e => by subst e; revert h; decide⟩
theorem itoa_ok (n : Int) : ∀ c ∈ Lib.itoa n, okc c := by
  intro c hc
  by_cases hn : n < 0
  · obtain ⟨u, rfl⟩ : ∃ u : Nat, n = -(u : Int) := ⟨n.natAbs, by omega⟩
    rw [itoa_negd u (by omega)] at hc
    rcases List.mem_cons.mp hc with rfl | hc
    · exact ⟨rfl, by decide, by decide⟩
    · exact digit_ok (dec_digit u c hc)
  · obtain ⟨u, rfl⟩ : ∃ u : Nat, n = u := ⟨n.toNat, by omega⟩
    rw [Lib.itoa_nonneg] at hc
    exact digit_ok (dec_digit u c hc)
theorem name_all {s : List UInt8} (h : isName s = true) : (∀ c ∈ s, inner c = true) ∧ 1 ≤ s.length ∧ s.length ≤ 8 ∧ letter (s.getD 0 0) = true := by
  unfold isName at h
  simp only [Bool.and_eq_true, decide_eq_true_eq, beq_iff_eq] at h
  obtain ⟨⟨⟨h1, h2⟩, h3⟩, h4⟩ := h
  refine ⟨?_, by omega, by omega, h3⟩
  have : s.takeWhile inner = s := (List.takeWhile_prefix inner).eq_of_length (by unfold nameLen at h4; omega)
  intro c hc
  rw [← this] at hc
  exact tw_mem hc
theorem name_of {s : List UInt8} (h1 : ∀ c ∈ s, inner c = true) (h2 : 1 ≤ s.length) (h3 : s.length ≤ 8) (h4 : letter (s.getD 0 0) = true) : isName s = true := by
  unfold isName nameLen
  rw [h4, tw_all h1, decide_eq_true (by omega), decide_eq_true (by omega)]
  simp
theorem nameLen_all {s : List UInt8} (h : ∀ c ∈ s, inner c = true) : nameLen s = s.length := by
  unfold nameLen; rw [tw_all h]
theorem nameLen_app {s r : List UInt8} {c : UInt8} (h : ∀ c ∈ s, inner c = true) (hc : inner c = false) : nameLen (s ++ c :: r) = s.length := by
  unfold nameLen; rw [List.takeWhile_append_of_pos h]; simp [hc]
theorem getD_app0 {s r : List UInt8} (h : 1 ≤ s.length) : (s ++ r).getD 0 0 = s.getD 0 0 := by
  cases s with
  | nil => simp at h
  | cons _ _ => rfl
def mayA (a : Arg) : Bool := if a.k = 0 then a.nm == [] && a.v == 0 else if a.k = 1 then a.nm == [] && within a.v else if a.k = 2 then isName a.nm && within a.v else false
/-- An operand, as it is printed. -/
def argS (a : Arg) : List UInt8 := if a.k = 1 then Lib.itoa a.v else a.nm ++ (if 0 < a.v then [43] else []) ++ (if a.v = 0 then [] else Lib.itoa a.v)
theorem itoa_head (v : Int) : Lib.itoa v ≠ [] ∧ letter ((Lib.itoa v).getD 0 0) = false := by
  have key : ∀ c : UInt8, okc c → (48 ≤ c.toNat ∧ c.toNat ≤ 57) ∨ c = 45 → letter c = false := by
    intro c _ h
    rcases h with h | rfl
    · unfold letter
      simp only [Bool.and_eq_false_iff, decide_eq_false_iff_not]
      omega
    · rfl
  by_cases hn : v < 0
  · obtain ⟨u, rfl⟩ : ∃ u : Nat, v = -(u : Int) := ⟨v.natAbs, by omega⟩
    rw [itoa_negd u (by omega)]
    exact ⟨by simp, rfl⟩
  · obtain ⟨u, rfl⟩ : ∃ u : Nat, v = u := ⟨v.toNat, by omega⟩
    rw [Lib.itoa_nonneg]
    refine ⟨dec_pos u, ?_⟩
    cases hd : Lib.decDigits u with
    | nil => rfl
    | cons d r =>
      have h := dec_digit u d (by rw [hd]; simp)
      exact key d (digit_ok h) (.inl h)
theorem opnd_sym {nm r : List UInt8} {c : UInt8} (hn : isName nm = true) (hc : c = 43 ∨ c = 45) (hr : [45].isPrefixOf r = false) (n : Int) (hv : num r = (n, 0)) :
    opnd (nm ++ c :: r) = (⟨2, nm, if c = 45 then -n else n⟩, 0, 0) := by
  obtain ⟨h1, h2, h3, h4⟩ := name_all hn
  have hi : inner c = false := by rcases hc with rfl | rfl <;> rfl
  have hk : nameLen (nm ++ c :: r) = nm.length := nameLen_app h1 hi
  have hg : (nm ++ c :: r).getD nm.length 0 = c := by simp
  have hd : (nm ++ c :: r).drop (nm.length + 1) = r := by simp
  have ht : (nm ++ c :: r).take nm.length = nm := by simp
  have h0 : ((nm ++ c :: r) == []) = false := by cases nm <;> rfl
  unfold opnd
  rw [h0, getD_app0 h2, h4, hk, hg, hd, ht, hr, hv]
  simp only [Bool.not_true, Bool.or_self, Bool.false_eq_true, if_false]
  rw [if_neg (by omega), if_neg (by simp; omega)]
  rcases hc with rfl | rfl
  · rfl
  · rfl
theorem opnd_argS (a : Arg) (h : mayA a = true) (h0 : a.k ≠ 0) : opnd (argS a) = (a, 0, 0) := by
  obtain ⟨k, nm, v⟩ := a
  unfold mayA at h
  rw [if_neg h0] at h
  unfold argS
  by_cases h1 : k = 1
  · subst h1
    simp only [if_true] at h ⊢
    simp only [Bool.and_eq_true, beq_iff_eq] at h
    obtain ⟨rfl, hw⟩ := h
    obtain ⟨e1, e2⟩ := itoa_head v
    have e1' : (Lib.itoa v == []) = false := by simpa using e1
    unfold opnd
    rw [num_itoa v hw, e1', e2]
    rfl
  · simp only [if_neg h1] at h ⊢
    by_cases h2 : k = 2
    · subst h2
      simp only [if_true, Bool.and_eq_true] at h
      obtain ⟨hn, hw⟩ := h
      have hw' : -65535 ≤ v ∧ v ≤ 65535 := by simpa [within] using hw
      have hd : ∀ u : Nat, [45].isPrefixOf (Lib.decDigits u) = false := by
        intro u
        cases hd : Lib.decDigits u with
        | nil => rfl
        | cons d r =>
          have h := dec_digit u d (by rw [hd]; simp)
          have : ¬ (45 : UInt8) = d := fun e => by subst e; revert h; decide
          simp [List.isPrefixOf, this]
      rcases Int.lt_trichotomy v 0 with hv | hv | hv
      · obtain ⟨u, rfl⟩ : ∃ u : Nat, v = -(u : Int) := ⟨v.natAbs, by omega⟩
        rw [if_neg (by omega), if_neg (by omega), itoa_negd u (by omega), List.append_nil, opnd_sym hn (.inr rfl) (hd u) u (num_dec u (by omega))]
        rfl
      · subst hv
        obtain ⟨e1, e2, e3, e4⟩ := name_all hn
        rw [if_neg (by omega), if_pos rfl, List.append_nil, List.append_nil]
        have e0 : (nm == []) = false := by cases nm with | nil => simp at e2 | cons _ _ => rfl
        unfold opnd
        rw [e0, e4, nameLen_all e1]
        simp only [Bool.not_true, Bool.or_self, Bool.false_eq_true, if_false]
        rw [if_neg (by omega), if_pos trivial, List.take_length]
      · obtain ⟨u, rfl⟩ : ∃ u : Nat, v = u := ⟨v.toNat, by omega⟩
        rw [if_pos (by omega), if_neg (by omega), Lib.itoa_nonneg, List.append_assoc, List.singleton_append, opnd_sym hn (.inl rfl) (hd u) u (num_dec u (by omega))]
        rfl
    · rw [if_neg h2] at h; cases h
theorem argS_ok (a : Arg) (h : mayA a = true) (h0 : a.k ≠ 0) : (∀ c ∈ argS a, okc c) ∧ argS a ≠ [] ∧ (argS a).length ≤ 30 := by
  have hl : within a.v = true → (Lib.itoa a.v).length ≤ 21 := fun h => by
    have : -65535 ≤ a.v ∧ a.v ≤ 65535 := by simpa [within] using h
    exact itoa_len (by unfold inI64; omega)
  unfold mayA at h
  rw [if_neg h0] at h
  unfold argS
  by_cases h1 : a.k = 1
  · simp only [if_pos h1, Bool.and_eq_true] at h ⊢
    exact ⟨itoa_ok _, (itoa_head _).1, by have := hl h.2; omega⟩
  · simp only [if_neg h1] at h ⊢
    by_cases h2 : a.k = 2
    · simp only [if_pos h2, Bool.and_eq_true] at h
      obtain ⟨e1, e2, e3, e4⟩ := name_all h.1
      have := hl h.2
      refine ⟨?_, ?_, ?_⟩
      · intro c hc
        rcases List.mem_append.mp hc with hc | hc
        · rcases List.mem_append.mp hc with hc | hc
          · exact inner_ok (e1 c hc)
          · split at hc
            · rw [List.mem_singleton] at hc; subst hc; exact ⟨rfl, by decide, by decide⟩
            · simp at hc
        · split at hc
          · simp at hc
          · exact itoa_ok _ c hc
      · intro h; simp at h; rw [h.1] at e2; simp at e2
      · simp only [List.length_append]
        split <;> split <;> simp <;> omega
    · rw [if_neg h2] at h; cases h
theorem flds_blank {o : Nat} {c : UInt8} {r : List UInt8} (hc : blank c = true) : flds o [] (c :: r) = flds (o + 1) [] r := by simp [flds, hc]
theorem word_app {w r : List UInt8} {c : UInt8} (hw : ∀ x ∈ w, okc x) (hc : blank c = true) : word (w ++ c :: r) = w := by
  unfold word
  rw [List.takeWhile_append_of_pos (fun x hx => by rw [(hw x hx).1]; rfl)]
  simp [hc]
theorem word_all {w : List UInt8} (hw : ∀ x ∈ w, okc x) : word w = w := by
  unfold word
  exact tw_all (fun x hx => by rw [(hw x hx).1]; rfl)
theorem flds_cons {w r : List UInt8} {c : UInt8} {o : Nat} (hw : ∀ x ∈ w, okc x) (hn : w ≠ []) (hc : blank c = true) : flds o [] (w ++ c :: r) = (o, w) :: flds (o + w.length + 1) [] r := by
  have hn' : (w == []) = false := by simpa using hn
  rw [flds_word, word_app hw hc, List.nil_append, List.drop_left]
  simp only [flds, hc, if_true, hn', Bool.false_eq_true, if_false]
  rw [Nat.add_sub_cancel]
theorem flds_last {w : List UInt8} {o : Nat} (hw : ∀ x ∈ w, okc x) (hn : w ≠ []) : flds o [] w = [(o, w)] := by
  have hn' : (w == []) = false := by simpa using hn
  rw [flds_word, word_all hw, List.nil_append, List.drop_length]
  simp only [flds, hn', Bool.false_eq_true, if_false]
  rw [Nat.add_sub_cancel]
theorem bef_no {c : UInt8} {s : List UInt8} (h : ∀ x ∈ s, x ≠ c) : bef c s = s := by
  unfold bef
  exact tw_all (fun x hx => by simpa using h x hx)
theorem may_parts {l : Line} (h : mayB l = true) : (l.lab = [] ∨ isName l.lab = true) ∧ (l.op = [] ∨ isName l.op = true) ∧ (l.op = [] → l.arg.k = 0) ∧ mayA l.arg = true := by
  unfold mayB at h
  simp only [Bool.and_eq_true, Bool.not_eq_true', Bool.or_eq_false_iff, Bool.and_eq_false_iff, Bool.not_eq_false', beq_iff_eq] at h
  obtain ⟨⟨⟨h1, h2⟩, h3⟩, h4⟩ := h
  refine ⟨h1, h2, fun h => ?_, h4⟩
  rcases h3 with h3 | h3
  · rw [h] at h3; cases h3
  · exact h3
theorem may_of {l : Line} (h1 : l.lab = [] ∨ isName l.lab = true) (h2 : l.op = [] ∨ isName l.op = true) (h3 : l.op = [] → l.arg.k = 0) (h4 : mayA l.arg = true) : mayB l = true := by
  unfold mayB
  simp only [Bool.and_eq_true, Bool.not_eq_true', Bool.or_eq_false_iff, Bool.and_eq_false_iff, Bool.not_eq_false', beq_iff_eq]
  refine ⟨⟨⟨h1, h2⟩, ?_⟩, h4⟩
  by_cases h : l.op = []
  · exact .inr (h3 h)
  · exact .inl (by simpa using h)
theorem arg0 {a : Arg} (h : mayA a = true) (h0 : a.k = 0) : a = az := by
  obtain ⟨k, nm, v⟩ := a
  unfold mayA at h
  rw [if_pos h0] at h
  simp only [Bool.and_eq_true, beq_iff_eq] at h
  obtain ⟨rfl, rfl⟩ := h
  cases h0; rfl
theorem tl_argS {a : Arg} (h : mayA a = true) : tl a = if a.k = 0 then [] else 32 :: argS a := by
  unfold tl argS
  unfold mayA at h
  split
  · rfl
  · split
    · rfl
    · rename_i h0 h1
      rw [if_neg h0, if_neg h1] at h
      split at h
      · rename_i h2; rw [if_pos h2]; rfl
      · cases h
/-- A printed line is scanned as the same. -/
theorem scan_print {l : Line} (h : mayB l = true) : scan (hd l ++ tl l.arg) = (l, 0, 0) ∧ (hd l ++ tl l.arg).length ≤ 60 ∧ ∀ c ∈ hd l ++ tl l.arg, c ≠ 10 ∧ c ≠ 35 := by
  obtain ⟨h1, h2, h3, h4⟩ := may_parts h
  obtain ⟨lab, op, arg⟩ := l
  dsimp only at h1 h2 h3 h4 ⊢
  have hlab : (∀ c ∈ lab, okc c) ∧ lab.length ≤ 8 := by
    rcases h1 with rfl | h1
    · exact ⟨fun c hc => absurd hc (by simp), by simp⟩
    · obtain ⟨e1, e2, e3, e4⟩ := name_all h1
      exact ⟨fun c hc => inner_ok (e1 c hc), e3⟩
  have hop : (∀ c ∈ op, okc c) ∧ op.length ≤ 8 := by
    rcases h2 with rfl | h1
    · exact ⟨fun c hc => absurd hc (by simp), by simp⟩
    · obtain ⟨e1, e2, e3, e4⟩ := name_all h1
      exact ⟨fun c hc => inner_ok (e1 c hc), e3⟩
  have hall : ∀ c ∈ hd ⟨lab, op, arg⟩ ++ tl arg, c ≠ 10 ∧ c ≠ 35 := by
    intro c hc
    rw [tl_argS h4] at hc
    unfold hd at hc
    dsimp only at hc
    have hw : ∀ c, okc c → c ≠ 10 ∧ c ≠ 35 := fun c h => ⟨h.2.2, h.2.1⟩
    rcases List.mem_append.mp hc with hc | hc
    · split at hc
      · exact hw c (hlab.1 c hc)
      · rcases List.mem_append.mp hc with hc | hc
        · rcases List.mem_append.mp hc with hc | hc
          · exact hw c (hlab.1 c hc)
          · rw [List.mem_singleton] at hc; subst hc; decide
        · exact hw c (hop.1 c hc)
    · split at hc
      · cases hc
      · rename_i h0
        rcases List.mem_cons.mp hc with rfl | hc
        · decide
        · exact hw c ((argS_ok arg h4 h0).1 c hc)
  have hlen : (hd ⟨lab, op, arg⟩ ++ tl arg).length ≤ 60 := by
    rw [tl_argS h4, List.length_append]
    unfold hd
    dsimp only
    have h9 : (if arg.k = 0 then [] else 32 :: argS arg : List UInt8).length ≤ 31 := by
      split
      · simp
      · rename_i h0
        have := (argS_ok arg h4 h0).2.2
        simp; omega
    have h8 : (if op = [] then lab else lab ++ [32] ++ op : List UInt8).length ≤ 17 := by
      split
      · omega
      · simp; omega
    omega
  refine ⟨?_, hlen, hall⟩
  obtain ⟨T, hT⟩ : ∃ T, hd ⟨lab, op, arg⟩ ++ tl arg = T := ⟨_, rfl⟩
  rw [hT] at hall hlen ⊢
  rw [scan, if_neg (by omega), bef_no (fun c hc => (hall c hc).2)]
  by_cases hopn : op = []
  · have hk := h3 hopn
    have ha := arg0 h4 hk
    subst hopn ha
    have hTl : T = lab := by rw [← hT]; simp [hd, tl, az]
    subst hTl
    by_cases hl : T = []
    · subst hl; rfl
    · have hn : isName T = true := h1.resolve_left hl
      have hnx : nx T = 0 := by
        cases T with
        | nil => exact absurd rfl hl
        | cons c r => unfold nx; simp [(hlab.1 c (by simp)).1]
      have hf : fl T 0 = [(0, T)] := by unfold fl; rw [List.drop_zero]; exact flds_last hlab.1 hl
      rw [hnx, hf, scanF, if_pos (by omega), if_pos hn]
      rfl
  · have hn2 : isName op = true := h2.resolve_left hopn
    have hTl : T = lab ++ 32 :: (op ++ (if arg.k = 0 then [] else 32 :: argS arg)) := by
      rw [← hT, tl_argS h4]; unfold hd; dsimp only; rw [if_neg hopn]; simp only [List.append_assoc, List.singleton_append, List.cons_append, List.nil_append]
    have hrest : ∀ o, flds o [] (op ++ (if arg.k = 0 then [] else 32 :: argS arg)) = (o, op) :: (if arg.k = 0 then [] else [(o + op.length + 1, argS arg)]) := by
      intro o
      by_cases h0 : arg.k = 0
      · rw [if_pos h0, if_pos h0, List.append_nil, flds_last hop.1 hopn]
      · obtain ⟨a1, a2, a3⟩ := argS_ok arg h4 h0
        rw [if_neg h0, if_neg h0, flds_cons hop.1 hopn rfl, flds_last a1 a2]
    have htail : ∀ (o : Nat) (l0 : Line), l0.op = [] → l0.arg = az → scanF ((o, op) :: (if arg.k = 0 then [] else [(o + op.length + 1, argS arg)])) 1 l0 = (⟨l0.lab, op, arg⟩, 0, 0) := by
      intro o l0 e1 e2
      obtain ⟨ll, lo, la⟩ := l0
      dsimp only at e1 e2
      subst e1 e2
      rw [scanF, if_pos (by omega), if_pos hn2]
      by_cases h0 : arg.k = 0
      · rw [if_pos h0, arg0 h4 h0]; rfl
      · have ho := opnd_argS arg h4 h0
        rw [if_neg h0, scanF, if_neg (by omega), if_pos (by omega), ho, if_neg (by simp), scanF]
        unfold upd
        rw [if_neg (by omega), if_neg (by omega), ho]
        rfl
    by_cases hl : lab = []
    · subst hl
      have hnx : nx T = 1 := by rw [hTl]; rfl
      have hf : fl T 0 = flds 1 [] (op ++ (if arg.k = 0 then [] else 32 :: argS arg)) := by unfold fl; rw [List.drop_zero, hTl, List.nil_append, flds_blank rfl]
      rw [hnx, hf, hrest, htail 1 lz rfl rfl]
      rfl
    · have hn : isName lab = true := h1.resolve_left hl
      have hnx : nx T = 0 := by
        rw [hTl]
        cases lab with
        | nil => exact absurd rfl hl
        | cons c r => unfold nx; simp [(hlab.1 c (by simp)).1]
      have hf : fl T 0 = (0, lab) :: flds (0 + lab.length + 1) [] (op ++ (if arg.k = 0 then [] else 32 :: argS arg)) := by unfold fl; rw [List.drop_zero, hTl, flds_cons hlab.1 hl rfl]
      rw [hnx, hf, hrest, scanF, if_pos (by omega), if_pos hn, htail _ (upd 0 lab lz) rfl rfl]
      rfl
theorem ne0 (k : Int) (h : (k == 0) = false) : k ≠ 0 := by simpa using h
theorem letter_inner {c : UInt8} (h : letter c = true) : inner c = true := by unfold inner; rw [h]; rfl
theorem num_within {s : List UInt8} : within (num s).1 = true := by
  have := num_bounds s
  simp [within]; omega
theorem take_name {s : List UInt8} (h0 : s ≠ []) (h1 : letter (s.getD 0 0) = true) (h2 : nameLen s ≤ 8) : isName (s.take (nameLen s)) = true := by
  have e : s.take (nameLen s) = s.takeWhile inner := (List.prefix_iff_eq_take.mp (List.takeWhile_prefix inner)).symm
  have hl : 1 ≤ (s.takeWhile inner).length := by
    cases s with
    | nil => exact absurd rfl h0
    | cons c r =>
      have : inner c = true := letter_inner h1
      simp [this]
  refine name_of (fun c hc => by rw [e] at hc; exact tw_mem hc) (by rw [e]; exact hl) (by rw [List.length_take]; omega) ?_
  cases s with
  | nil => exact absurd rfl h0
  | cons c r =>
    rw [e]
    have : inner c = true := letter_inner h1
    simp [this]
    exact h1
/-- An operand that is read is one that can be printed, and is none of kind 0; otherwise the error lies in it. -/
theorem opnd_ok (s : List UInt8) : ((opnd s).2.2 = 0 → mayA (opnd s).1 = true ∧ (opnd s).1.k ≠ 0 ∧ (opnd s).2.1 = 0) ∧ 0 ≤ (opnd s).2.1 ∧ (opnd s).2.1 ≤ s.length := by
  unfold opnd
  split
  · rename_i h
    split
    · rename_i h2
      exact ⟨fun h => absurd h h2, Int.le_refl _, Int.natCast_nonneg _⟩
    · refine ⟨fun _ => ⟨?_, (show _ ≠ (0 : Int) from ne0 _ rfl), rfl⟩, Int.le_refl _, Int.natCast_nonneg _⟩
      unfold mayA
      simp only [if_neg (show ¬ (1 : Int) = 0 by decide), if_true, num_within]
      rfl
  · rename_i h
    simp only [Bool.or_eq_true, not_or, Bool.not_eq_true, Bool.not_eq_false'] at h
    have h0 : s ≠ [] := fun e => by rw [e] at h; exact absurd h.1 (by simp)
    have hkl : nameLen s ≤ s.length := tw_le s
    split
    · exact ⟨fun h => absurd (show (5 : Int) = 0 from h) (by decide), Int.le_refl _, Int.natCast_nonneg _⟩
    · rename_i h8
      have hn := take_name h0 h.2 (by omega)
      split
      · refine ⟨fun _ => ⟨?_, (show _ ≠ (0 : Int) from ne0 _ rfl), rfl⟩, Int.le_refl _, Int.natCast_nonneg _⟩
        unfold mayA
        simp only [if_neg (show ¬ (2 : Int) = 0 by decide), if_neg (show ¬ (2 : Int) = 1 by decide), if_true, hn]
        rfl
      · rename_i hk
        split
        · split
          · exact ⟨fun h => absurd (show (5 : Int) = 0 from h) (by decide), by dsimp only; omega, by dsimp only; omega⟩
          · split
            · rename_i h2
              exact ⟨fun h => absurd h h2, by dsimp only; omega, by dsimp only; omega⟩
            · refine ⟨fun _ => ⟨?_, (show _ ≠ (0 : Int) from ne0 _ rfl), rfl⟩, Int.le_refl _, Int.natCast_nonneg _⟩
              have hw : within (if ((s.getD (nameLen s) 0).toNat : Int) = 45 then -(num (s.drop (nameLen s + 1))).1 else (num (s.drop (nameLen s + 1))).1) = true := by
                have := num_bounds (s.drop (nameLen s + 1))
                split <;> (simp [within]; omega)
              unfold mayA
              simp only [if_neg (show ¬ (2 : Int) = 0 by decide), if_neg (show ¬ (2 : Int) = 1 by decide), if_true, hn, hw]
              rfl
        · exact ⟨fun h => absurd (show (5 : Int) = 0 from h) (by decide), by dsimp only; omega, by dsimp only; omega⟩
/-- What a line holds after m fields. -/
def Inv (m : Nat) (l : Line) : Prop :=
  (l.lab = [] ∨ isName l.lab = true) ∧ (m ≤ 1 → l.op = []) ∧ (2 ≤ m → isName l.op = true) ∧ (m ≤ 2 → l.arg = az) ∧ mayA l.arg = true
theorem inv_may {m : Nat} {l : Line} (h : Inv m l) : mayB l = true := by
  obtain ⟨h1, h2, h3, h4, h5⟩ := h
  refine may_of h1 ?_ ?_ h5
  · by_cases hm : m ≤ 1
    · exact .inl (h2 hm)
    · exact .inr (h3 (by omega))
  · intro ho
    by_cases hm : m ≤ 2
    · rw [h4 hm]; rfl
    · have := h3 (by omega)
      rw [ho] at this; exact absurd this (by decide)
theorem inv_upd {m : Nat} {l : Line} {s : List UInt8} (h : Inv m l) (h1 : m ≤ 1 → isName s = true) (h2 : m = 2 → (opnd s).2.2 = 0) (hm : m ≤ 2) : Inv (m + 1) (upd m s l) := by
  obtain ⟨e1, e2, e3, e4, e5⟩ := h
  unfold upd
  by_cases m0 : m = 0
  · subst m0
    exact ⟨.inr (h1 (by omega)), fun _ => e2 (by omega), fun h => by omega, fun _ => e4 (by omega), e5⟩
  · rw [if_neg m0]
    by_cases m1 : m = 1
    · subst m1
      exact ⟨e1, fun h => by omega, fun _ => h1 (by omega), fun _ => e4 (by omega), e5⟩
    · rw [if_neg m1]
      exact ⟨e1, fun h => by omega, fun _ => e3 (by omega), fun h => by omega, ((opnd_ok s).1 (h2 (by omega))).1⟩
theorem scanF_ok (n : Nat) : ∀ (ps : List (Nat × List UInt8)) (m : Nat) (l : Line), (∀ p ∈ ps, p.1 + p.2.length ≤ n) → m ≤ 3 → Inv m l →
    ((scanF ps m l).2.2 = 0 → mayB (scanF ps m l).1 = true ∧ (scanF ps m l).2.1 = 0) ∧ ((scanF ps m l).2.2 ≠ 0 → (scanF ps m l).1 = lz ∧ 0 ≤ (scanF ps m l).2.1 ∧ (scanF ps m l).2.1 ≤ n)
  | [], m, l, _, _, hI => ⟨fun _ => ⟨inv_may hI, rfl⟩, fun h => absurd rfl h⟩
  | p :: ps, m, l, hp, hm, hI => by
    have hp1 := hp p (by simp)
    have hps : ∀ q ∈ ps, q.1 + q.2.length ≤ n := fun q hq => hp q (by simp [hq])
    unfold scanF
    split
    · split
      · rename_i h1 h2
        exact scanF_ok n ps (m + 1) _ hps (by omega) (inv_upd hI (fun _ => h2) (fun h => by omega) (by omega))
      · exact ⟨fun h => absurd (show (5 : Int) = 0 from h) (by decide), fun _ => ⟨rfl, by dsimp only; omega, by dsimp only; omega⟩⟩
    · split
      · split
        · rename_i h3
          have := (opnd_ok p.2).2
          exact ⟨fun h => absurd h h3, fun _ => ⟨rfl, by dsimp only; omega, by dsimp only; omega⟩⟩
        · rename_i h1 h2 h3
          exact scanF_ok n ps (m + 1) _ hps (by omega) (inv_upd hI (fun h => by omega) (fun _ => by simpa using h3) (by omega))
      · exact ⟨fun h => absurd (show (5 : Int) = 0 from h) (by decide), fun _ => ⟨rfl, by dsimp only; omega, by dsimp only; omega⟩⟩
theorem flds_bd2 : ∀ (s : List UInt8) (o : Nat) (cur : List UInt8) (p : Nat × List UInt8), cur.length ≤ o → p ∈ flds o cur s → p.1 + p.2.length ≤ o + s.length
  | [], o, cur, p, hc, h => by
    simp only [flds] at h
    split at h
    · cases h
    · simp only [List.mem_singleton] at h; subst h; simp; omega
  | c :: s, o, cur, p, hc, h => by
    simp only [flds] at h
    split at h
    · split at h
      · have := flds_bd2 s (o + 1) [] p (by simp) h; simp at this ⊢; omega
      · rcases List.mem_cons.mp h with rfl | h
        · simp; omega
        · have := flds_bd2 s (o + 1) [] p (by simp) h; simp at this ⊢; omega
    · have := flds_bd2 s (o + 1) (cur ++ [c]) p (by simp; omega) h; simp at this ⊢; omega
theorem scan_ok (s : List UInt8) : ((scan s).2.2 = 0 → mayB (scan s).1 = true ∧ (scan s).2.1 = 0) ∧ ((scan s).2.2 ≠ 0 → (scan s).1 = lz ∧ 0 ≤ (scan s).2.1 ∧ (scan s).2.1 ≤ s.length) := by
  by_cases h : 120 < (s.length : Int)
  · rw [scan, if_pos h]
    exact ⟨fun h => absurd (show (4 : Int) = 0 from h) (by decide), fun _ => ⟨rfl, by dsimp only; omega, by dsimp only; omega⟩⟩
  · rw [scan, if_neg h]
    refine scanF_ok s.length _ _ _ (fun p hp => ?_) (by unfold nx; split <;> omega) ⟨.inl rfl, fun _ => rfl, fun h => ?_, fun _ => rfl, rfl⟩
    · unfold fl at hp
      have := flds_bd2 _ _ _ _ (by simp) hp
      have := bef_le 35 s
      simp at *; omega
    · unfold nx at h; split at h <;> omega
theorem print_ok {l : Line} (h : mayB l = true) : print l = (hd l ++ tl l.arg, 0) := by rw [print_may, h]; rfl
theorem B62_of {s : List UInt8} {n : Nat} (h : s.length ≤ n) (hn : n < 2 ^ 62) : B62 s := by unfold B62; omega
theorem may_bd {l : Line} (h : mayB l = true) : l.lab.length ≤ 8 ∧ l.op.length ≤ 8 ∧ l.arg.nm.length ≤ 8 ∧ inI64 l.arg.v ∧ within l.arg.v = true := by
  obtain ⟨h1, h2, h3, h4⟩ := may_parts h
  have key : l.arg.nm.length ≤ 8 ∧ within l.arg.v = true := by
    unfold mayA at h4
    split at h4
    · simp only [Bool.and_eq_true, beq_iff_eq] at h4
      rw [h4.1, h4.2]; exact ⟨by simp, rfl⟩
    · split at h4
      · simp only [Bool.and_eq_true, beq_iff_eq] at h4
        rw [h4.1]; exact ⟨by simp, h4.2⟩
      · split at h4
        · simp only [Bool.and_eq_true] at h4
          exact ⟨(name_all h4.1).2.2.1, h4.2⟩
        · cases h4
  have hw : -65535 ≤ l.arg.v ∧ l.arg.v ≤ 65535 := by simpa [within] using key.2
  refine ⟨?_, ?_, key.1, by unfold inI64; omega, key.2⟩
  · rcases h1 with h1 | h1
    · rw [h1]; simp
    · exact (name_all h1).2.2.1
  · rcases h2 with h1 | h1
    · rw [h1]; simp
    · exact (name_all h1).2.2.1
/-- The lines of a source; cur came before. -/
def lnsF : List UInt8 → List UInt8 → List (List UInt8)
  | cur, [] => if cur == [] then [] else [cur]
  | cur, c :: s => if c == 10 then cur :: lnsF [] s else lnsF (cur ++ [c]) s
def lns (s : List UInt8) : List (List UInt8) := lnsF [] s
theorem lnsF_bef : ∀ (s cur : List UInt8), lnsF cur s = if s.contains 10 then (cur ++ bef 10 s) :: lns (aft 10 s) else (if (cur ++ s) == [] then [] else [cur ++ s])
  | [], cur => by simp [lnsF]
  | c :: s, cur => by
    by_cases hc : c = 10
    · subst hc; simp [lnsF, bef, aft, lns]
    · have h1 : (c == 10) = false := by simpa using hc
      have h2 : (10 == c) = false := by simpa using Ne.symm hc
      have hb : bef 10 (c :: s) = c :: bef 10 s := by simp [bef, hc]
      have ha : aft 10 (c :: s) = aft 10 s := by simp [aft, hc]
      rw [lnsF, h1, if_neg (by decide), lnsF_bef s, List.contains_cons, h2, Bool.false_or, hb, ha]
      simp
theorem bef_all {c : UInt8} : ∀ {s : List UInt8}, s.contains c = false → bef c s = s ∧ aft c s = []
  | [], _ => ⟨rfl, rfl⟩
  | d :: s, h => by
    simp only [List.contains_cons, Bool.or_eq_false_iff] at h
    have hne : d ≠ c := fun e => by rw [e] at h; simp at h
    obtain ⟨h1, h2⟩ := bef_all h.2
    simp only [bef, aft] at h1 h2 ⊢
    simp [hne, h1, h2]
theorem lns_cut {s : List UInt8} (h : s ≠ []) : lns s = bef 10 s :: lns (aft 10 s) ∧ (aft 10 s).length < s.length := by
  constructor
  · unfold lns
    rw [lnsF_bef]
    cases hc : s.contains 10 with
    | true => rfl
    | false =>
      obtain ⟨h1, h2⟩ := bef_all hc
      rw [h1, h2]
      simp [h, lnsF]
  · cases s with
    | nil => exact absurd rfl h
    | cons c s =>
      unfold aft
      have : ((c :: s).dropWhile (· != 10)).length ≤ (c :: s).length := (List.dropWhile_suffix _).length_le
      simp only [List.length_drop, List.length_cons] at *
      omega
theorem lnsF_take {s : List UInt8} {i f : Nat} (hi : i < s.length) (hf : f ≤ i) : lnsF ((s.take i).drop f) (s.drop i) =
    if s.getD i 0 == 10 then (s.take i).drop f :: lnsF ((s.take (i + 1)).drop (i + 1)) (s.drop (i + 1)) else lnsF ((s.take (i + 1)).drop f) (s.drop (i + 1)) := by
  have e1 : (s.take (i + 1)).drop (i + 1) = [] := List.drop_eq_nil_of_le (by simp; omega)
  have e2 : (s.take (i + 1)).drop f = (s.take i).drop f ++ [s.getD i 0] := by
    rw [List.take_add_one, List.drop_append_of_le_length (by simp; omega)]
    simp [hi]
  rw [getD_drop hi, lnsF, e1, e2]
def scell (s : List UInt8) (_ : Nat) : PV := .str s
def strsP (L : List (List UInt8)) : PV := sqA 9 1 scell [] L
def Line.p (l : Line) (j : Nat) : PV :=
  match j with
  | 0 => .str l.lab
  | 1 => .str l.op
  | 2 => .int .u8 l.arg.k
  | 3 => .str l.arg.nm
  | _ => .int .i64 l.arg.v
def linesP (L : List Line) : PV := sqA 27 5 Line.p lz L
/-- The lines are scanned, acc came before. -/
def scanL : List (List UInt8) → List Line → List Line × Int × Int
  | [], acc => (acc, 0, 0)
  | x :: xs, acc => if (scan x).2.2 ≠ 0 then ([], acc.length + 1, (scan x).2.2) else scanL xs (acc ++ [(scan x).1])
def scanAll (s : List UInt8) : List Line × Int × Int := if 65536 < (s.length : Int) then ([], 0, 4) else scanL (lns s) []
def allT (x : List Line × Int × Int) : AV := tupV [.pv (linesP x.1), i64 x.2.1, i64 x.2.2]
theorem aft_le (c : UInt8) (s : List UInt8) : (aft c s).length ≤ s.length := by
  unfold aft
  have : (s.dropWhile (· != c)).length ≤ s.length := (List.dropWhile_suffix _).length_le
  simp only [List.length_drop]; omega
theorem lnsF_len : ∀ (s cur : List UInt8), (lnsF cur s).length ≤ s.length + 1
  | [], cur => by simp only [lnsF]; split <;> simp
  | c :: s, cur => by
    simp only [lnsF]
    split
    · have := lnsF_len s []; simp; omega
    · have := lnsF_len s (cur ++ [c]); simp; omega
theorem lnsF_bd : ∀ (s cur x : List UInt8), x ∈ lnsF cur s → x.length ≤ cur.length + s.length
  | [], cur, x, h => by
    simp only [lnsF] at h
    split at h
    · cases h
    · simp only [List.mem_singleton] at h; subst h; simp
  | c :: s, cur, x, h => by
    simp only [lnsF] at h
    split at h
    · rcases List.mem_cons.mp h with rfl | h
      · simp
      · have := lnsF_bd s [] x h; simp at this ⊢; omega
    · have := lnsF_bd s (cur ++ [c]) x h; simp at this ⊢; omega
theorem lns_bd (s : List UInt8) : (lns s).length ≤ s.length + 1 ∧ ∀ x ∈ lns s, x.length ≤ s.length :=
  ⟨lnsF_len s [], fun x hx => by have := lnsF_bd s [] x hx; simpa using this⟩
/-- The same list twice. -/
theorem tk30 (L : List Line) (hL : L.length < 2 ^ 40) : PureCall Tryd.prog 13 [.pv (linesP L), .pv (linesP L)] (bb true) := by
  refine PureCall.run tab_ok mixed (by kernel_rfl) Tryd.func13 rfl rfl rfl ?_
  conv => whnf
  repeat (first | ((with_reducible first | apply ga | apply gb | apply gc | apply gd | apply ge | apply gf | apply gg | apply gh | apply gi | apply gj); conv => whnf) | (refine ⟨⟨rfl, rfl, nle rfl, nle rfl⟩, ?_⟩; conv => whnf) | fail)
  refine ⟨fun h => absurd h (by simp), fun _ => ?_⟩
  conv => whnf
  repeat (first | ((with_reducible first | apply ga | apply gb | apply gc | apply gd | apply ge | apply gf | apply gg | apply gh | apply gi | apply gj); conv => whnf) | (refine ⟨⟨rfl, rfl, nle rfl, nle rfl⟩, ?_⟩; conv => whnf) | fail)
  refine ex_loop tab_ok mixed (fun i : Nat => i ≤ L.length) (fun i => mkSt 26 [(0, .pv (linesP L)), (1, .pv (linesP L)), (5, i64 i)] []) (fun i => L.length - i) 0 (Nat.zero_le _) (SubS.mk [] rfl ⟨⟨_, rfl, .same⟩, ⟨_, rfl, .same⟩, ⟨_, rfl, .same⟩, trivial⟩ trivial) ?_
  intro i hi
  conv => whnf
  repeat (first | ((with_reducible first | apply ga | apply gb | apply gc | apply gd | apply ge | apply gf | apply gg | apply gh | apply gi | apply gj); conv => whnf) | (refine ⟨⟨rfl, rfl, nle rfl, nle rfl⟩, ?_⟩; conv => whnf) | fail)
  refine ⟨fun hc => ?_, fun hc => ?_⟩ <;> replace hc := nm hc <;> (try simp only [Int.toNat_zero] at hc) <;> (try simp only [Int.toNat_one] at hc)
  · conv => whnf
    repeat (first | ((with_reducible first | apply ga | apply gb | apply gc | apply gd | apply ge | apply gf | apply gg | apply gh | apply gi | apply gj); conv => whnf) | (refine ⟨⟨rfl, rfl, nle rfl, nle rfl⟩, ?_⟩; conv => whnf) | fail)
    refine ⟨⟨by omega, by omega, rfl⟩, ?_⟩
    conv => whnf
    repeat (first | ((with_reducible first | apply ga | apply gb | apply gc | apply gd | apply ge | apply gf | apply gg | apply gh | apply gi | apply gj); conv => whnf) | (refine ⟨⟨rfl, rfl, nle rfl, nle rfl⟩, ?_⟩; conv => whnf) | fail)
    refine ⟨⟨by decide⟩, ?_⟩
    conv => whnf
    repeat (first | ((with_reducible first | apply ga | apply gb | apply gc | apply gd | apply ge | apply gf | apply gg | apply gh | apply gi | apply gj); conv => whnf) | (refine ⟨⟨rfl, rfl, nle rfl, nle rfl⟩, ?_⟩; conv => whnf) | fail)
    refine ⟨⟨by omega, by omega, rfl⟩, ?_⟩
    conv => whnf
    repeat (first | ((with_reducible first | apply ga | apply gb | apply gc | apply gd | apply ge | apply gf | apply gg | apply gh | apply gi | apply gj); conv => whnf) | (refine ⟨⟨rfl, rfl, nle rfl, nle rfl⟩, ?_⟩; conv => whnf) | fail)
    refine ⟨⟨by decide⟩, ?_⟩
    conv => whnf
    repeat (first | ((with_reducible first | apply ga | apply gb | apply gc | apply gd | apply ge | apply gf | apply gg | apply gh | apply gi | apply gj); conv => whnf) | (refine ⟨⟨rfl, rfl, nle rfl, nle rfl⟩, ?_⟩; conv => whnf) | fail)
    refine ⟨rfl, ?_⟩
    conv => whnf
    repeat (first | ((with_reducible first | apply ga | apply gb | apply gc | apply gd | apply ge | apply gf | apply gg | apply gh | apply gi | apply gj); conv => whnf) | (refine ⟨⟨rfl, rfl, nle rfl, nle rfl⟩, ?_⟩; conv => whnf) | fail)
    refine ⟨fun h => absurd h (by simp), fun _ => ?_⟩
    conv => whnf
    repeat (first | ((with_reducible first | apply ga | apply gb | apply gc | apply gd | apply ge | apply gf | apply gg | apply gh | apply gi | apply gj); conv => whnf) | (refine ⟨⟨rfl, rfl, nle rfl, nle rfl⟩, ?_⟩; conv => whnf) | fail)
    refine ⟨⟨by unfold inI64; omega⟩, ?_⟩
    conv => whnf
    repeat (first | ((with_reducible first | apply ga | apply gb | apply gc | apply gd | apply ge | apply gf | apply gg | apply gh | apply gi | apply gj); conv => whnf) | (refine ⟨⟨rfl, rfl, nle rfl, nle rfl⟩, ?_⟩; conv => whnf) | fail)
    exact ⟨i + 1, by omega, SubS.mk [] rfl ⟨⟨_, rfl, .same⟩, ⟨_, rfl, .same⟩, ⟨_, rfl, .same⟩, trivial⟩ trivial, by omega⟩
  · conv => whnf
    repeat (first | ((with_reducible first | apply ga | apply gb | apply gc | apply gd | apply ge | apply gf | apply gg | apply gh | apply gi | apply gj); conv => whnf) | (refine ⟨⟨rfl, rfl, nle rfl, nle rfl⟩, ?_⟩; conv => whnf) | fail)
    exact done_bool _ _ rfl rfl rfl
theorem scanL_len : ∀ (N : List (List UInt8)) (acc : List Line), (scanL N acc).1.length ≤ N.length + acc.length
  | [], acc => by simp [scanL]
  | x :: xs, acc => by
    simp only [scanL]
    split
    · simp
    · have := scanL_len xs (acc ++ [(scan x).1]); simp at this ⊢; omega
theorem scanAll_len (s : List UInt8) : (scanAll s).1.length ≤ 65537 := by
  unfold scanAll
  split
  · simp
  · have := scanL_len (lns s) []
    have := (lns_bd s).1
    simp at *; omega
/-- The fields' texts. -/
def ftx : List UInt8 → List UInt8 → List (List UInt8)
  | cur, [] => if cur == [] then [] else [cur]
  | cur, c :: s => if blank c then (if cur == [] then ftx [] s else cur :: ftx [] s) else ftx (cur ++ [c]) s
theorem flds_ftx : ∀ (s : List UInt8) (o : Nat) (cur : List UInt8), (flds o cur s).map (·.2) = ftx cur s
  | [], o, cur => by simp only [flds, ftx]; split <;> rfl
  | c :: s, o, cur => by
    simp only [flds, ftx]
    split
    · split
      · exact flds_ftx s _ _
      · rw [List.map_cons, flds_ftx s]
    · exact flds_ftx s _ _
theorem scanF_txt : ∀ (ps qs : List (Nat × List UInt8)) (m : Nat) (l l' : Line), ps.map (·.2) = qs.map (·.2) → scanF ps m l = (l', 0, 0) → scanF qs m l = (l', 0, 0)
  | [], [], m, l, l', _, h => h
  | [], q :: qs, m, l, l', h, _ => by simp at h
  | p :: ps, [], m, l, l', h, _ => by simp at h
  | p :: ps, q :: qs, m, l, l', h, h2 => by
    simp only [List.map_cons, List.cons.injEq] at h
    rw [scanF] at h2 ⊢
    rw [← h.1]
    split at h2
    · rename_i h3
      rw [if_pos h3]
      split at h2
      · rename_i h4
        rw [if_pos h4]
        exact scanF_txt ps qs _ _ _ h.2 h2
      · have := congrArg (fun x => x.2.2) h2
        exact absurd (show (5 : Int) = 0 from this) (by decide)
    · rename_i h3
      rw [if_neg h3]
      split at h2
      · rename_i h4
        rw [if_pos h4]
        split at h2
        · rename_i h5
          have := congrArg (fun x => x.2.2) h2
          exact absurd this h5
        · rename_i h5
          rw [if_neg h5]
          exact scanF_txt ps qs _ _ _ h.2 h2
      · have := congrArg (fun x => x.2.2) h2
        exact absurd (show (5 : Int) = 0 from this) (by decide)
def dbl (c : UInt8) : List UInt8 := if blank c then [c, 32] else [c]
def wide (s : List UInt8) : List UInt8 := s.flatMap dbl
theorem ftx_wide : ∀ (s cur : List UInt8), ftx cur (wide s) = ftx cur s
  | [], cur => rfl
  | c :: s, cur => by
    have ih := ftx_wide s
    unfold wide at ih ⊢
    rw [List.flatMap_cons]
    unfold dbl
    cases hb : blank c with
    | true =>
      have h32 : blank 32 = true := rfl
      have hn : (([] : List UInt8) == []) = true := rfl
      simp only [if_true, List.cons_append, List.nil_append, ftx, hb, h32, hn]
      have e : List.flatMap (fun c => if blank c = true then [c, 32] else [c]) s = s.flatMap dbl := rfl
      rw [e, ih]
    | false =>
      simp only [Bool.false_eq_true, if_false, List.cons_append, List.nil_append, ftx, hb]
      exact ih _
theorem ftx_blanks {t : List UInt8} (ht : ∀ c ∈ t, blank c = true) : ∀ (s cur : List UInt8), ftx cur (s ++ t) = ftx cur s
  | [], cur => by
    rw [List.nil_append]
    have key : ∀ t : List UInt8, (∀ c ∈ t, blank c = true) → ftx [] t = [] := by
      intro t
      induction t with
      | nil => intro _; rfl
      | cons d t ih =>
        intro h
        have hd := h d (by simp)
        have hn : (([] : List UInt8) == []) = true := rfl
        simp only [ftx, hd, if_true, hn]
        exact ih fun c hc => h c (by simp [hc])
    cases t with
    | nil => rfl
    | cons d t =>
      have hd := ht d (by simp)
      have := key t fun c hc => ht c (by simp [hc])
      simp only [ftx, hd, if_true, this]
  | c :: s, cur => by
    simp only [List.cons_append, ftx, ftx_blanks ht s]
theorem bef_wide : ∀ s : List UInt8, bef 35 (wide s) = wide (bef 35 s)
  | [] => rfl
  | c :: s => by
    have ih := bef_wide s
    unfold wide at ih ⊢
    rw [List.flatMap_cons]
    by_cases hc : c = 35
    · subst hc; rfl
    · have e : bef 35 (c :: s) = c :: bef 35 s := by simp [bef, hc]
      rw [e, List.flatMap_cons, ← ih]
      have e2 : ∀ r : List UInt8, bef 35 (c :: r) = c :: bef 35 r := fun r => by simp [bef, hc]
      have e3 : ∀ r : List UInt8, bef 35 (32 :: r) = 32 :: bef 35 r := fun r => by simp [bef]
      unfold dbl
      split
      · simp only [List.cons_append, List.nil_append, e2, e3]
      · simp only [List.cons_append, List.nil_append, e2]
theorem nx_wide (s : List UInt8) : nx (wide s) = nx s := by
  cases s with
  | nil => rfl
  | cons c s =>
    unfold wide
    rw [List.flatMap_cons]
    unfold dbl nx
    split <;> rfl
theorem scan_txt {s t : List UInt8} {l : Line} (h : scan s = (l, 0, 0)) (ht : t.length ≤ 120) (hf : ftx [] (bef 35 t) = ftx [] (bef 35 s)) (hn : nx (bef 35 t) = nx (bef 35 s)) : scan t = (l, 0, 0) := by
  unfold scan at h ⊢
  rw [if_neg (by omega), hn]
  split at h
  · have := congrArg (fun x => x.2.2) h
    exact absurd (show (4 : Int) = 0 from this) (by decide)
  · exact scanF_txt _ _ _ _ _ (by unfold fl; rw [List.drop_zero, List.drop_zero, flds_ftx, flds_ftx, hf]) h
theorem scan_wide {s : List UInt8} {l : Line} (h : scan s = (l, 0, 0)) (ht : (wide s).length ≤ 120) : scan (wide s) = (l, 0, 0) :=
  scan_txt h ht (by rw [bef_wide, ftx_wide]) (by rw [bef_wide, nx_wide])
theorem bef_app {c : UInt8} : ∀ (s t : List UInt8), bef c (s ++ t) = if s.contains c then bef c s else s ++ bef c t
  | [], t => by simp
  | d :: s, t => by
    have ih := bef_app (c := c) s t
    by_cases h : d = c
    · subst h; simp [bef]
    · have hne : (c == d) = false := by simpa using Ne.symm h
      have e : ∀ r : List UInt8, bef c (d :: r) = d :: bef c r := fun r => by simp [bef, h]
      rw [List.cons_append, e, e, ih, List.contains_cons, hne, Bool.false_or]
      split <;> simp
theorem scan_end {s t : List UInt8} {l : Line} (h : scan s = (l, 0, 0)) (hl : (s ++ t).length ≤ 120) (ht : ∀ c ∈ bef 35 t, blank c = true) : scan (s ++ t) = (l, 0, 0) := by
  refine scan_txt h hl ?_ ?_
  · rw [bef_app]
    split
    · rfl
    · rename_i hc
      rw [ftx_blanks ht, (bef_all (s := s) (by simpa using hc)).1]
  · rw [bef_app]
    split
    · rfl
    · rename_i hc
      rw [(bef_all (s := s) (by simpa using hc)).1]
      cases s with
      | cons c s => rfl
      | nil =>
        rw [List.nil_append]
        cases hb : bef 35 t with
        | nil => rfl
        | cons d r =>
          have := ht d (by rw [hb]; simp)
          unfold nx
          simp [this]
/-- Blanks at the end, k times two. -/
def tail : Nat → List UInt8
  | 0 => []
  | k + 1 => tail k ++ [9, 32]
theorem tail_len (k : Nat) : (tail k).length = 2 * k := by
  induction k with
  | zero => rfl
  | succ k ih => rw [tail, List.length_append, ih]; simp; omega
theorem tail_blank (k : Nat) : ∀ c ∈ tail k, blank c = true := by
  induction k with
  | zero => intro c hc; cases hc
  | succ k ih =>
    intro c hc
    rw [tail] at hc
    rcases List.mem_append.mp hc with hc | hc
    · exact ih c hc
    · simp only [List.mem_cons, List.not_mem_nil, or_false] at hc
      rcases hc with rfl | rfl <;> rfl
theorem tail_bef (k : Nat) (r : List UInt8) : ∀ c ∈ bef 35 (tail k ++ (35 :: r)), blank c = true := by
  intro c hc
  rw [bef_app] at hc
  split at hc
  · rename_i h
    exact absurd (tail_blank k 35 (by simpa using h)) (by decide)
  · simp only [bef, List.takeWhile_cons, bne_self_eq_false, Bool.false_eq_true, if_false, List.append_nil] at hc
    exact tail_blank k c hc
theorem tail_bef0 (k : Nat) : ∀ c ∈ bef 35 (tail k), blank c = true := by
  intro c hc
  have := (List.takeWhile_prefix (l := tail k) (· != (35 : UInt8))).subset hc
  exact tail_blank k c this
def bcell (c : UInt8) (_ : Nat) : PV := .int .u8 c.toNat
def bytesO (g : Nat) (L : List UInt8) : AO := rowA 5 1 bcell 0 g L
theorem bytes_str {L : List UInt8} {f : Nat → Nat → AV} {n : Nat} (hn : n = L.length) (hf : ∀ i, i < L.length → f i 0 = .pv (bcell (L.getD i 0) 0)) : (List.range n).map (fun i => (f (0 + i) 0).byte) = L := by
  subst hn
  apply List.ext_getElem
  · simp
  · intro i h1 h2
    have := hf i h2
    simp only [List.getElem_map, List.getElem_range, Nat.zero_add, this]
    simp [bcell, AV.byte, PV.byte, h2]
theorem itoa_nat_len {u : Nat} (h : u ≤ 300000) : (Lib.itoa (u : Int)).length ≤ 21 := itoa_len (by unfold inI64; omega)
theorem tk27m : ∀ (u : Nat), u ≤ 300000 → PureCall Tryd.prog 42 [i64 u] (st (Lib.itoa u)) := by
  intro u
  induction u using Nat.strongRecOn with
  | ind u ih =>
    intro hu
    have hl : ∀ k : Nat, k ≤ 300000 → (Lib.itoa (k : Int)).length ≤ 21 := fun k hk => itoa_nat_len hk
    refine PureCall.run tab_ok mixed (by kernel_rfl) Tryd.func42 rfl rfl rfl ?_
    conv => whnf
    repeat (first | ((with_reducible first | apply ga | apply gb | apply gc | apply gd | apply ge | apply gf | apply gg | apply gh | apply gi | apply gj); conv => whnf) | (refine ⟨⟨rfl, rfl, nle rfl, nle rfl⟩, ?_⟩; conv => whnf) | fail)
    refine ⟨fun hn => ?_, fun hn => ?_⟩ <;> replace hn := nm hn <;> (try simp only [Int.toNat_zero] at hn) <;> (try simp only [Int.toNat_one] at hn)
    · exfalso; omega
    · conv => whnf
      repeat (first | ((with_reducible first | apply ga | apply gb | apply gc | apply gd | apply ge | apply gf | apply gg | apply gh | apply gi | apply gj); conv => whnf) | (refine ⟨⟨rfl, rfl, nle rfl, nle rfl⟩, ?_⟩; conv => whnf) | fail)
      refine ⟨fun h10 => ?_, fun h10 => ?_⟩ <;> replace h10 := nm h10 <;> (try simp only [Int.toNat_zero] at h10) <;> (try simp only [Int.toNat_one] at h10)
      · conv => whnf
        repeat (first | ((with_reducible first | apply ga | apply gb | apply gc | apply gd | apply ge | apply gf | apply gg | apply gh | apply gi | apply gj); conv => whnf) | (refine ⟨⟨rfl, rfl, nle rfl, nle rfl⟩, ?_⟩; conv => whnf) | fail)
        refine ⟨⟨by unfold inI64; omega⟩, ?_⟩
        conv => whnf
        repeat (first | ((with_reducible first | apply ga | apply gb | apply gc | apply gd | apply ge | apply gf | apply gg | apply gh | apply gi | apply gj); conv => whnf) | (refine ⟨⟨rfl, rfl, nle rfl, nle rfl⟩, ?_⟩; conv => whnf) | fail)
        refine ⟨⟨by omega, by omega, by simp only [List.length_cons, List.length_nil]; omega⟩, ?_⟩
        conv => whnf
        repeat (first | ((with_reducible first | apply ga | apply gb | apply gc | apply gd | apply ge | apply gf | apply gg | apply gh | apply gi | apply gj); conv => whnf) | (refine ⟨⟨rfl, rfl, nle rfl, nle rfl⟩, ?_⟩; conv => whnf) | fail)
        have hE : Lib.itoa (u : Int) = (digs.take ((u : Int) + 1).toNat).drop (u : Int).toNat := by
          rw [Lib.itoa_nonneg, show ((u : Int) + 1).toNat = u + 1 by omega, show ((u : Int)).toNat = u by omega, digs_at u (by omega), Lib.decDigits_one (by omega)]
        rw [hE]
        exact ⟨[], .same⟩
      · conv => whnf
        repeat (first | ((with_reducible first | apply ga | apply gb | apply gc | apply gd | apply ge | apply gf | apply gg | apply gh | apply gi | apply gj); conv => whnf) | (refine ⟨⟨rfl, rfl, nle rfl, nle rfl⟩, ?_⟩; conv => whnf) | fail)
        have e1 : Int.tdiv (u : Int) 10 = ((u / 10 : Nat) : Int) := by rw [Int.tdiv_eq_ediv_of_nonneg (by omega)]; omega
        have e2 : Int.tmod (u : Int) 10 = ((u % 10 : Nat) : Int) := by rw [Int.tmod_eq_emod_of_nonneg (by omega)]; omega
        refine ⟨⟨by decide, by unfold inI64; rw [e1]; omega⟩, ?_⟩
        conv => whnf
        repeat (first | ((with_reducible first | apply ga | apply gb | apply gc | apply gd | apply ge | apply gf | apply gg | apply gh | apply gi | apply gj); conv => whnf) | (refine ⟨⟨rfl, rfl, nle rfl, nle rfl⟩, ?_⟩; conv => whnf) | fail)
        rw [e1]
        refine CallK.flat [] (ih (u / 10) (by omega) (by omega)) ⟨.same, trivial⟩ rfl ?_
        conv => whnf
        repeat (first | ((with_reducible first | apply ga | apply gb | apply gc | apply gd | apply ge | apply gf | apply gg | apply gh | apply gi | apply gj); conv => whnf) | (refine ⟨⟨rfl, rfl, nle rfl, nle rfl⟩, ?_⟩; conv => whnf) | fail)
        refine ⟨⟨by decide⟩, ?_⟩
        conv => whnf
        repeat (first | ((with_reducible first | apply ga | apply gb | apply gc | apply gd | apply ge | apply gf | apply gg | apply gh | apply gi | apply gj); conv => whnf) | (refine ⟨⟨rfl, rfl, nle rfl, nle rfl⟩, ?_⟩; conv => whnf) | fail)
        rw [e2]
        refine CallK.flat [] (ih (u % 10) (by omega) (by omega)) ⟨.same, trivial⟩ rfl ?_
        conv => whnf
        repeat (first | ((with_reducible first | apply ga | apply gb | apply gc | apply gd | apply ge | apply gf | apply gg | apply gh | apply gi | apply gj); conv => whnf) | (refine ⟨⟨rfl, rfl, nle rfl, nle rfl⟩, ?_⟩; conv => whnf) | fail)
        refine ⟨⟨by have := hl (u / 10) (by omega); have := hl (u % 10) (by omega); omega⟩, ?_⟩
        conv => whnf
        repeat (first | ((with_reducible first | apply ga | apply gb | apply gc | apply gd | apply ge | apply gf | apply gg | apply gh | apply gi | apply gj); conv => whnf) | (refine ⟨⟨rfl, rfl, nle rfl, nle rfl⟩, ?_⟩; conv => whnf) | fail)
        have hE : Lib.itoa (u : Int) = Lib.itoa ((u / 10 : Nat) : Int) ++ Lib.itoa ((u % 10 : Nat) : Int) := by
          rw [Lib.itoa_nonneg, Lib.itoa_nonneg, Lib.itoa_nonneg]; exact dec_big (by omega)
        rw [hE]
        exact ⟨[], .same⟩
/-- Digits to the base 8. -/
def octD (n : Nat) : List UInt8 := if n < 8 then [UInt8.ofNat (48 + n)] else octD (n / 8) ++ [UInt8.ofNat (48 + n % 8)]
termination_by n
decreasing_by omega
theorem oct_one {n : Nat} (h : n < 8) : octD n = [UInt8.ofNat (48 + n)] := by rw [octD, if_pos h]
theorem oct_big {n : Nat} (h : ¬ n < 8) : octD n = octD (n / 8) ++ octD (n % 8) := by rw [octD, if_neg h, oct_one (n := n % 8) (by omega)]
theorem oct_len (n : Nat) : 1 ≤ (octD n).length ∧ (octD n).length ≤ n + 1 := by
  induction n using Nat.strongRecOn with
  | ind n ih =>
    by_cases h : n < 8
    · rw [oct_one h]; simp
    · have := ih (n / 8) (by omega)
      rw [octD, if_neg h, List.length_append, List.length_singleton]; omega
theorem val_oct (u : Nat) : val 8 0 (octD u) = some (min (u : Int) 65536) := by
  induction u using Nat.strongRecOn with
  | ind u ih =>
    by_cases h : u < 8
    · rw [oct_one h, val, val, dig_toNat (by omega), if_pos (by omega)]
      congr 1; omega
    · rw [octD, if_neg h, val_app, ih (u / 8) (by omega), Option.bind_some, val, val, dig_toNat (by omega), if_pos (by omega)]
      congr 1; omega
def octs : List UInt8 := [48, 49, 50, 51, 52, 53, 54, 55]
theorem octs_at : ∀ n : Nat, n < 8 → (octs.take (n + 1)).drop n = [UInt8.ofNat (48 + n)] := by decide
def zs (k n : Nat) : List UInt8 := List.replicate k 48 ++ octD n
theorem zs_succ (k n : Nat) : [48] ++ zs k n = zs (k + 1) n := by unfold zs; rw [List.replicate_succ]; rfl
theorem zs_len (k n : Nat) : 1 ≤ (zs k n).length ∧ (zs k n).length ≤ k + n + 1 := by
  have := oct_len n
  unfold zs; rw [List.length_append, List.length_replicate]; omega
theorem val_zs (k n : Nat) : valN 8 (zs k n) = some (min (n : Int) 65536) := by
  have h : val 8 0 (zs k n) = some (min (n : Int) 65536) := by
    induction k with
    | zero => unfold zs; rw [List.replicate_zero, List.nil_append]; exact val_oct n
    | succ k ih => rw [← zs_succ, List.singleton_append, val]; exact ih
  have hn : (zs k n == []) = false := by
    cases hz : zs k n with
    | nil => have := (zs_len k n).1; rw [hz] at this; simp at this
    | cons _ _ => rfl
  unfold valN
  rw [hn]; exact h
def rg (neg : Bool) (n : Nat) : Int × Int := numR neg (some (min (n : Int) 65536))
theorem num_o (k n : Nat) : num ([48, 111] ++ zs k n) = rg false n ∧ num ([45, 48, 111] ++ zs k n) = rg true n := by
  have e : numV ([48, 111] ++ zs k n) = some (min (n : Int) 65536) := by
    unfold numV
    rw [show ([48, 111] : List UInt8).isPrefixOf ([48, 111] ++ zs k n) = true by simp, show cutP [48, 111] ([48, 111] ++ zs k n) = zs k n by simp [cutP]]
    exact val_zs k n
  constructor
  · unfold num rg
    rw [show cutP [45] ([48, 111] ++ zs k n) = [48, 111] ++ zs k n by simp [cutP, List.isPrefixOf], e]
    rfl
  · unfold num rg
    rw [show cutP [45] ([45, 48, 111] ++ zs k n) = [48, 111] ++ zs k n by simp [cutP], e]
    rfl
theorem num_d (n : Nat) : num (Lib.itoa (n : Int)) = rg false n ∧ num ([45] ++ Lib.itoa (n : Int)) = rg true n := by
  rw [Lib.itoa_nonneg]
  have e2 : [45].isPrefixOf (Lib.decDigits n) = false := by
    cases hd : Lib.decDigits n with
    | nil => rfl
    | cons d r =>
      have h := dec_digit n d (by rw [hd]; simp)
      have : ¬ (45 : UInt8) = d := fun e => by subst e; revert h; decide
      simp [List.isPrefixOf, this]
  have e1 : cutP [45] (Lib.decDigits n) = Lib.decDigits n := by unfold cutP; rw [e2]; rfl
  constructor
  · unfold num rg
    rw [e1, e2, numV_dec]
  · unfold num rg
    rw [show cutP [45] ([45] ++ Lib.decDigits n) = Lib.decDigits n by simp [cutP], numV_dec]
    simp
theorem rg_big {n : Nat} (h : 65535 < n) (b : Bool) : rg b n = (0, 3) := by
  unfold rg numR
  rw [show min (n : Int) 65536 = 65536 by omega]
  cases b <;> rfl
theorem rg_zero : rg false 0 = (0, 0) ∧ rg true 0 = (0, 5) := by decide
theorem rg_mid {n : Nat} (h : n ≤ 65535) (h0 : 0 < n) : rg false n = ((n : Int), 0) ∧ rg true n = (-(n : Int), 0) := by
  unfold rg numR
  have e3 : ((n : Int) == 0) = false := by simp; omega
  simp only [show min (n : Int) 65536 = n by omega, e3, Bool.and_false, Bool.false_eq_true, if_false, if_neg (show ¬ 65535 < (n : Int) by omega), if_true, and_self]
theorem lnsF_cons {w : List UInt8} (s : List UInt8) (hw : ∀ c ∈ w, c ≠ 10) : ∀ cur, lnsF cur (w ++ 10 :: s) = (cur ++ w) :: lns s := by
  induction w with
  | nil => intro cur; rw [List.nil_append, List.append_nil]; rfl
  | cons c w ih =>
    intro cur
    have h := hw c (by simp)
    have hb : (c == 10) = false := by simpa using h
    rw [List.cons_append, lnsF, hb, if_neg (by decide), ih (fun d hd => hw d (by simp [hd]))]
    simp
theorem lns_cons {w : List UInt8} (s : List UInt8) (hw : ∀ c ∈ w, c ≠ 10) : lns (w ++ 10 :: s) = w :: lns s := lnsF_cons s hw []
def txt (l : Line) : List UInt8 := hd l ++ tl l.arg
def srcM (M : List Line) : List UInt8 := M.flatMap fun l => txt l ++ [10]
theorem scanL_src : ∀ (M acc : List Line), (∀ l ∈ M, mayB l = true) → scanL (lns (srcM M)) acc = (acc ++ M, 0, 0)
  | [], acc, _ => by simp [srcM, lns, lnsF, scanL]
  | l :: M, acc, h => by
    obtain ⟨h1, h2, h3⟩ := scan_print (h l (by simp))
    have h3' : ∀ c ∈ txt l, c ≠ 10 := fun c hc => (h3 c hc).1
    have e : srcM (l :: M) = txt l ++ 10 :: srcM M := by unfold srcM; rw [List.flatMap_cons, List.append_assoc, List.singleton_append]
    have h1' : scan (txt l) = (l, 0, 0) := h1
    rw [e, lns_cons _ h3', scanL, h1', if_neg (by simp), scanL_src M _ (fun m hm => h m (by simp [hm]))]
    simp
theorem srcM_len : ∀ (M : List Line), (∀ l ∈ M, mayB l = true) → (srcM M).length ≤ 61 * M.length
  | [], _ => by simp [srcM]
  | l :: M, h => by
    obtain ⟨h1, h2, h3⟩ := scan_print (h l (by simp))
    have ih := srcM_len M (fun m hm => h m (by simp [hm]))
    unfold srcM at ih ⊢
    rw [List.flatMap_cons]
    unfold txt at ih ⊢
    simp only [List.length_append, List.length_cons, List.length_nil] at *
    omega
theorem scanAll_src (M : List Line) (h : ∀ l ∈ M, mayB l = true) (hl : M.length ≤ 500) : scanAll (srcM M) = (M, 0, 0) := by
  have := srcM_len M h
  unfold scanAll
  rw [if_neg (by omega), scanL_src M [] h, List.nil_append]
theorem take_filter {L : List Line} {i : Nat} (hi : i < L.length) : (L.take (i + 1)).filter mayB = (L.take i).filter mayB ++ (if mayB (L.getD i lz) then [L.getD i lz] else []) := by
  rw [List.take_add_one, List.filter_append]
  simp [hi, List.filter_cons]
end Go.Proofs.YtolgdbekdkldjaaDoor

namespace Go.Proofs.YtolgdbekdkldjaaDoor
open Go Go.AM
/-- An instruction. -/
structure Ent where
  nm : List UInt8
  k : Nat
  b : Nat
  c : Nat
/-- The instructions, in the order of their codes: name, kind, base, cycles. -/
def ents : List Ent := [
  ⟨[84, 67], 3, 0, 1⟩,
  ⟨[69, 88, 84, 69, 78, 68], 0, 6, 1⟩,
  ⟨[73, 78, 72, 73, 78, 84], 0, 4, 1⟩,
  ⟨[82, 69, 76, 73, 78, 84], 0, 3, 1⟩,
  ⟨[67, 67, 83], 1, 4096, 2⟩,
  ⟨[84, 67, 70], 2, 4096, 1⟩,
  ⟨[68, 65, 83], 1, 8192, 3⟩,
  ⟨[76, 88, 67, 72], 1, 9216, 2⟩,
  ⟨[73, 78, 67, 82], 1, 10240, 2⟩,
  ⟨[65, 68, 83], 1, 11264, 2⟩,
  ⟨[67, 65], 3, 12288, 2⟩,
  ⟨[67, 83], 3, 16384, 2⟩,
  ⟨[73, 78, 68, 69, 88], 1, 20480, 2⟩,
  ⟨[82, 69, 83, 85, 77, 69], 0, 20495, 2⟩,
  ⟨[68, 88, 67, 72], 1, 21504, 3⟩,
  ⟨[84, 83], 1, 22528, 2⟩,
  ⟨[88, 67, 72], 1, 23552, 2⟩,
  ⟨[65, 68], 3, 24576, 2⟩,
  ⟨[77, 65, 83, 75], 3, 28672, 2⟩,
  ⟨[82, 69, 65, 68], 4, 0, 2⟩,
  ⟨[87, 82, 73, 84, 69], 4, 512, 2⟩,
  ⟨[82, 65, 78, 68], 4, 1024, 2⟩,
  ⟨[87, 65, 78, 68], 4, 1536, 2⟩,
  ⟨[82, 79, 82], 4, 2048, 2⟩,
  ⟨[87, 79, 82], 4, 2560, 2⟩,
  ⟨[82, 88, 79, 82], 4, 3072, 2⟩,
  ⟨[69, 68, 82, 85, 80, 84], 4, 3584, 3⟩,
  ⟨[68, 86], 1, 4096, 6⟩,
  ⟨[66, 90, 70], 2, 4096, 2⟩,
  ⟨[77, 83, 85], 1, 8192, 2⟩,
  ⟨[81, 88, 67, 72], 1, 9216, 2⟩,
  ⟨[65, 85, 71], 1, 10240, 2⟩,
  ⟨[68, 73, 77], 1, 11264, 2⟩,
  ⟨[68, 67, 65], 3, 12288, 3⟩,
  ⟨[68, 67, 83], 3, 16384, 3⟩,
  ⟨[88, 73, 78, 68, 69, 88], 3, 20480, 2⟩,
  ⟨[83, 85], 1, 24576, 2⟩,
  ⟨[66, 90, 77, 70], 2, 24576, 2⟩,
  ⟨[77, 80], 3, 28672, 3⟩]

def e0 : Ent := ⟨[], 0, 0, 0⟩
def ent (c : Nat) : Ent := ents.getD (c - 1) e0
/-- The greatest and the least operand of a kind. -/
def mst (k : Nat) : Nat := match k with | 1 => 1023 | 2 => 4095 | 3 => 4095 | 4 => 511 | _ => 0
def lst (k : Nat) : Nat := match k with | 2 => 1024 | _ => 0
def fits (e : Ent) (w : Nat) : Bool := Nat.ble (e.b + lst e.k) w && Nat.ble w (e.b + mst e.k)
/-- The first whose words include w, or the last. -/
def findE (w : Nat) : List Ent → Nat → Nat
  | [], c => c
  | e :: es, c => bif es.isEmpty || fits e w then c else findE w es (c + 1)
def decN (w : Nat) (x : Bool) : Nat :=
  bif x then findE w (ents.drop 19) 20 else bif Nat.beq w 3 then 4 else bif Nat.beq w 4 then 3 else bif Nat.beq w 6 then 2 else bif Nat.beq w 20495 then 14 else findE w (ents.take 19) 1
/-- Operands that are reserved. -/
def resv (c k : Nat) : Bool := (Nat.beq c 1 && (Nat.beq k 3 || Nat.beq k 4 || Nat.beq k 6)) || (Nat.beq c 13 && Nat.beq k 15)
def refE (w : Nat) (x : Bool) : List Ent → Nat → Nat
  | [], _ => 0
  | e :: es, c => bif (Nat.ble 20 c == x) && fits e w && !(resv c (w - e.b)) then c else refE w x es (c + 1)
theorem refE_app {w : Nat} {x : Bool} (fs : List Ent) : ∀ (es : List Ent) (c : Nat), 0 < c → refE w x (es ++ fs) c = if refE w x es c = 0 then refE w x fs (c + es.length) else refE w x es c
  | [], c, _ => by simp [refE]
  | e :: es, c, hc => by
    simp only [List.cons_append, refE]
    by_cases h : (Nat.ble 20 c == x && fits e w && !(resv c (w - e.b))) = true
    · simp only [h, cond_true]; rw [if_neg (by omega)]
    · have h := Bool.not_eq_true _ ▸ h
      simp only [h, cond_false]
      rw [refE_app fs es (c + 1) (by omega), List.length_cons, show c + 1 + es.length = c + (es.length + 1) by omega]
theorem refE_none {w : Nat} {x : Bool} : ∀ (es : List Ent) (c : Nat), (∀ i, i < es.length → (Nat.ble 20 (c + i) == x) = false) → refE w x es c = 0
  | [], c, _ => rfl
  | e :: es, c, h => by
    have h0 := h 0 (by simp)
    simp only [refE]
    rw [Nat.add_zero] at h0
    rw [h0]
    simp only [Bool.false_and, cond_false]
    exact refE_none es (c + 1) fun i hi => by rw [show c + 1 + i = c + (i + 1) by omega]; exact h _ (by simp; omega)
theorem find_ref {w : Nat} {x : Bool} : ∀ (es : List Ent) (c : Nat), 0 < c → (∀ i, i < es.length → (Nat.ble 20 (c + i) == x) = true) → (∀ i, i < es.length → resv (c + i) (w - (es.getD i e0).b) = false) → (es.any (fun e => fits e w)) = true →
    refE w x es c = findE w es c ∧ c ≤ findE w es c ∧ findE w es c < c + es.length ∧ fits (es.getD (findE w es c - c) e0) w = true
  | [], c, _, _, _, h => by simp at h
  | e :: es, c, hc, h1, h2, h3 => by
    have a1 := h1 0 (by simp)
    have a2 := h2 0 (by simp)
    rw [Nat.add_zero] at a1 a2
    simp only [List.getD_cons_zero] at a2
    simp only [refE, findE, a1, a2, Bool.not_false, Bool.and_true, Bool.true_and]
    cases hf : fits e w with
    | true =>
      simp only [Bool.or_true, cond_true, Nat.sub_self, List.getD_cons_zero]
      exact ⟨trivial, Nat.le_refl _, by simp, hf⟩
    | false =>
      have h3' : (es.any (fun e => fits e w)) = true := by simpa [List.any_cons, hf] using h3
      have hne : es.isEmpty = false := by cases es with | nil => simp at h3' | cons _ _ => rfl
      obtain ⟨r1, r2, r3, r4⟩ := find_ref es (c + 1) (by omega) (fun i hi => by rw [show c + 1 + i = c + (i + 1) by omega]; exact h1 _ (by simp; omega)) (fun i hi => by rw [show c + 1 + i = c + (i + 1) by omega]; have := h2 (i + 1) (by simp; omega); simpa using this) h3'
      simp only [hne, Bool.or_self, cond_false]
      refine ⟨r1, by omega, by simp; omega, ?_⟩
      rw [show findE w es (c + 1) - c = (findE w es (c + 1) - (c + 1)) + 1 by omega, List.getD_cons_succ]
      exact r4
theorem nbeq {a b : Nat} : Nat.beq a b = decide (a = b) := by
  by_cases h : a = b
  · rw [decide_eq_true h, h]; exact Nat.beq_refl b
  · rw [decide_eq_false h]
    cases hc : Nat.beq a b with
    | true => exact absurd (Nat.eq_of_beq_eq_true hc) h
    | false => rfl
theorem resv_no {c k : Nat} (h1 : c = 1 → k ≠ 3 ∧ k ≠ 4 ∧ k ≠ 6) (h2 : c = 13 → k ≠ 15) : resv c k = false := by
  unfold resv
  simp only [nbeq, Bool.or_eq_false_iff, Bool.and_eq_false_iff, decide_eq_false_iff_not]
  omega
theorem any_ext {w : Nat} (h : w < 32768) : ((ents.drop 19).any fun e => fits e w) = true := by
  simp only [ents, List.drop_succ_cons, List.drop_zero, List.any_cons, List.any_nil, fits, lst, mst, Bool.or_eq_true, Bool.and_eq_true, Nat.ble_eq, Bool.or_false]
  omega
theorem any_bas {w : Nat} (h : w < 32768) : ((ents.take 19).any fun e => fits e w) = true := by
  simp only [ents, List.take_succ_cons, List.take_zero, List.any_cons, List.any_nil, fits, lst, mst, Bool.or_eq_true, Bool.and_eq_true, Nat.ble_eq, Bool.or_false]
  omega
theorem ents_split : ents = ents.take 19 ++ ents.drop 19 := (List.take_append_drop 19 ents).symm
theorem ref_dec {w : Nat} (x : Bool) (h : w < 32768) : refE w x ents 1 = decN w x ∧ 1 ≤ decN w x ∧ decN w x ≤ 39 ∧ fits (ent (decN w x)) w = true := by
  rw [ents_split, refE_app _ _ 1 (by omega)]
  cases x with
  | true =>
    rw [refE_none (ents.take 19) 1 (by decide), if_pos rfl]
    obtain ⟨r1, r2, r3, r4⟩ := find_ref (w := w) (x := true) (ents.drop 19) 20 (by omega) (by decide) (fun i hi => resv_no (by omega) (by omega)) (any_ext h)
    have hd : decN w true = findE w (ents.drop 19) 20 := rfl
    have hl : (ents.drop 19).length = 20 := rfl
    rw [hl] at r3
    refine ⟨by rw [hd, ← r1]; rfl, by rw [hd]; omega, by rw [hd]; omega, ?_⟩
    rw [hd]
    unfold ent
    rw [List.getD_eq_getElem?_getD, List.getElem?_drop, ← List.getD_eq_getElem?_getD, show 19 + (findE w (ents.drop 19) 20 - 20) = findE w (ents.drop 19) 20 - 1 by omega] at r4
    exact r4
  | false =>
    rw [refE_none (ents.drop 19) _ (by decide)]
    have hif : ∀ n : Nat, (if n = 0 then 0 else n) = n := by intro n; split <;> omega
    rw [hif]
    by_cases w3 : w = 3
    · subst w3; decide
    · by_cases w4 : w = 4
      · subst w4; decide
      · by_cases w6 : w = 6
        · subst w6; decide
        · by_cases w14 : w = 20495
          · subst w14; decide
          · have hd : decN w false = findE w (ents.take 19) 1 := by
              have n : ∀ k : Nat, w ≠ k → Nat.beq w k = false := fun k hk => by rw [nbeq]; exact decide_eq_false hk
              unfold decN
              rw [n 3 w3, n 4 w4, n 6 w6, n 20495 w14]; rfl
            have hl : (ents.take 19).length = 19 := rfl
            obtain ⟨r1, r2, r3, r4⟩ := find_ref (w := w) (x := false) (ents.take 19) 1 (by omega) (by decide) (fun i hi => by
              rw [hl] at hi
              refine resv_no (fun hc => ?_) (fun hc => ?_)
              · obtain rfl : i = 0 := by omega
                exact ⟨w3, w4, w6⟩
              · obtain rfl : i = 12 := by omega
                have : ((ents.take 19).getD 12 e0).b = 20480 := rfl
                omega) (any_bas h)
            rw [hl] at r3
            refine ⟨by rw [hd, r1], by rw [hd]; omega, by rw [hd]; omega, ?_⟩
            rw [hd]
            unfold ent
            rw [List.getD_eq_getElem?_getD, List.getElem?_take_of_lt (by omega), ← List.getD_eq_getElem?_getD] at r4
            exact r4
end Go.Proofs.YtolgdbekdkldjaaDoor

namespace Go.Proofs.YtolgdbekdkldjaaDoor
open Go Go.AM
attribute [local irreducible] AWP CallK PureCall SubS HeapCall
def tabF (o k : Nat) : AV :=
  match k % 4 with
  | 0 => st (ents.getD (o + k / 4) e0).nm
  | 1 => u8 (ents.getD (o + k / 4) e0).k
  | 2 => i64 (ents.getD (o + k / 4) e0).b
  | _ => i64 (ents.getD (o + k / 4) e0).c
set_option maxRecDepth 100000 in
theorem f46 : PureCall Tryd.prog 46 [] (.agg 76 (tabF 0)) := by
  refine PureCall.run tab_ok mixed (by kernel_rfl) Tryd.func46 rfl rfl rfl ?_
  conv => whnf
  repeat (first | ((with_reducible first | apply ga | apply gb | apply gc | apply gd | apply ge | apply gf | apply gg | apply gh | apply gi | apply gj); conv => whnf) | (refine ⟨⟨rfl, rfl, nle rfl, nle rfl⟩, ?_⟩; conv => whnf) | fail)
  exact ⟨[], .agg _ _ _ fun i hi => match i, hi with
    | 0, _ => .same
    | 1, _ => .same
    | 2, _ => .same
    | 3, _ => .same
    | 4, _ => .same
    | 5, _ => .same
    | 6, _ => .same
    | 7, _ => .same
    | 8, _ => .same
    | 9, _ => .same
    | 10, _ => .same
    | 11, _ => .same
    | 12, _ => .same
    | 13, _ => .same
    | 14, _ => .same
    | 15, _ => .same
    | 16, _ => .same
    | 17, _ => .same
    | 18, _ => .same
    | 19, _ => .same
    | 20, _ => .same
    | 21, _ => .same
    | 22, _ => .same
    | 23, _ => .same
    | 24, _ => .same
    | 25, _ => .same
    | 26, _ => .same
    | 27, _ => .same
    | 28, _ => .same
    | 29, _ => .same
    | 30, _ => .same
    | 31, _ => .same
    | 32, _ => .same
    | 33, _ => .same
    | 34, _ => .same
    | 35, _ => .same
    | 36, _ => .same
    | 37, _ => .same
    | 38, _ => .same
    | 39, _ => .same
    | 40, _ => .same
    | 41, _ => .same
    | 42, _ => .same
    | 43, _ => .same
    | 44, _ => .same
    | 45, _ => .same
    | 46, _ => .same
    | 47, _ => .same
    | 48, _ => .same
    | 49, _ => .same
    | 50, _ => .same
    | 51, _ => .same
    | 52, _ => .same
    | 53, _ => .same
    | 54, _ => .same
    | 55, _ => .same
    | 56, _ => .same
    | 57, _ => .same
    | 58, _ => .same
    | 59, _ => .same
    | 60, _ => .same
    | 61, _ => .same
    | 62, _ => .same
    | 63, _ => .same
    | 64, _ => .same
    | 65, _ => .same
    | 66, _ => .same
    | 67, _ => .same
    | 68, _ => .same
    | 69, _ => .same
    | 70, _ => .same
    | 71, _ => .same
    | 72, _ => .same
    | 73, _ => .same
    | 74, _ => .same
    | 75, _ => .same
    | k + 76, h => absurd (show k + 76 < 76 from h) (by omega)⟩
set_option maxRecDepth 100000 in
theorem f47 : PureCall Tryd.prog 47 [] (.agg 80 (tabF 19)) := by
  refine PureCall.run tab_ok mixed (by kernel_rfl) Tryd.func47 rfl rfl rfl ?_
  conv => whnf
  repeat (first | ((with_reducible first | apply ga | apply gb | apply gc | apply gd | apply ge | apply gf | apply gg | apply gh | apply gi | apply gj); conv => whnf) | (refine ⟨⟨rfl, rfl, nle rfl, nle rfl⟩, ?_⟩; conv => whnf) | fail)
  exact ⟨[], .agg _ _ _ fun i hi => match i, hi with
    | 0, _ => .same
    | 1, _ => .same
    | 2, _ => .same
    | 3, _ => .same
    | 4, _ => .same
    | 5, _ => .same
    | 6, _ => .same
    | 7, _ => .same
    | 8, _ => .same
    | 9, _ => .same
    | 10, _ => .same
    | 11, _ => .same
    | 12, _ => .same
    | 13, _ => .same
    | 14, _ => .same
    | 15, _ => .same
    | 16, _ => .same
    | 17, _ => .same
    | 18, _ => .same
    | 19, _ => .same
    | 20, _ => .same
    | 21, _ => .same
    | 22, _ => .same
    | 23, _ => .same
    | 24, _ => .same
    | 25, _ => .same
    | 26, _ => .same
    | 27, _ => .same
    | 28, _ => .same
    | 29, _ => .same
    | 30, _ => .same
    | 31, _ => .same
    | 32, _ => .same
    | 33, _ => .same
    | 34, _ => .same
    | 35, _ => .same
    | 36, _ => .same
    | 37, _ => .same
    | 38, _ => .same
    | 39, _ => .same
    | 40, _ => .same
    | 41, _ => .same
    | 42, _ => .same
    | 43, _ => .same
    | 44, _ => .same
    | 45, _ => .same
    | 46, _ => .same
    | 47, _ => .same
    | 48, _ => .same
    | 49, _ => .same
    | 50, _ => .same
    | 51, _ => .same
    | 52, _ => .same
    | 53, _ => .same
    | 54, _ => .same
    | 55, _ => .same
    | 56, _ => .same
    | 57, _ => .same
    | 58, _ => .same
    | 59, _ => .same
    | 60, _ => .same
    | 61, _ => .same
    | 62, _ => .same
    | 63, _ => .same
    | 64, _ => .same
    | 65, _ => .same
    | 66, _ => .same
    | 67, _ => .same
    | 68, _ => .same
    | 69, _ => .same
    | 70, _ => .same
    | 71, _ => .same
    | 72, _ => .same
    | 73, _ => .same
    | 74, _ => .same
    | 75, _ => .same
    | 76, _ => .same
    | 77, _ => .same
    | 78, _ => .same
    | 79, _ => .same
    | k + 80, h => absurd (show k + 80 < 80 from h) (by omega)⟩
def entV (e : Ent) : AV := .agg 4 (getL [st e.nm, u8 e.k, i64 e.b, i64 e.c])
theorem agg4 {H : Heap} {B : List Nat} {U : List (Nat × Nat)} {f g : Nat → AV} (h0 : VLe H B U (f 0) (g 0)) (h1 : VLe H B U (f 1) (g 1)) (h2 : VLe H B U (f 2) (g 2)) (h3 : VLe H B U (f 3) (g 3)) : VLe H B U (.agg 4 f) (.agg 4 g) :=
  .agg _ _ _ fun i hi => match i, hi with
    | 0, _ => h0
    | 1, _ => h1
    | 2, _ => h2
    | 3, _ => h3
theorem f33_1 : PureCall Tryd.prog 33 [u8 (1 : Nat)] (entV (ent 1)) := by
  refine PureCall.run tab_ok mixed (by kernel_rfl) Tryd.func33 rfl rfl rfl ?_
  conv => whnf
  repeat (first | ((with_reducible first | apply ga | apply gb | apply gc | apply gd | apply ge | apply gf | apply gg | apply gh | apply gi | apply gj); conv => whnf) | (refine ⟨⟨rfl, rfl, nle rfl, nle rfl⟩, ?_⟩; conv => whnf) | fail)
  repeat (first | ((with_reducible first | apply ga | apply gb | apply gc | apply gd | apply ge | apply gf | apply gg | apply gh | apply gi | apply gj); conv => whnf) | (refine ⟨⟨rfl, rfl, nle rfl, nle rfl⟩, ?_⟩; conv => whnf) | (refine ⟨fun _ => ?_, fun h => absurd h (by decide)⟩; conv => whnf) | (refine ⟨fun h => absurd h (by decide), fun _ => ?_⟩; conv => whnf) | fail)
  refine CallK.flat [] f46 trivial rfl ?_
  conv => whnf
  repeat (first | ((with_reducible first | apply ga | apply gb | apply gc | apply gd | apply ge | apply gf | apply gg | apply gh | apply gi | apply gj); conv => whnf) | (refine ⟨⟨rfl, rfl, nle rfl, nle rfl⟩, ?_⟩; conv => whnf) | fail)
  refine ⟨⟨by decide, by decide, by decide, by decide⟩, ?_⟩
  conv => whnf
  repeat (first | ((with_reducible first | apply ga | apply gb | apply gc | apply gd | apply ge | apply gf | apply gg | apply gh | apply gi | apply gj); conv => whnf) | (refine ⟨⟨rfl, rfl, nle rfl, nle rfl⟩, ?_⟩; conv => whnf) | fail)
  exact ⟨[], agg4 .same .same .same .same⟩
theorem f33_2 : PureCall Tryd.prog 33 [u8 (2 : Nat)] (entV (ent 2)) := by
  refine PureCall.run tab_ok mixed (by kernel_rfl) Tryd.func33 rfl rfl rfl ?_
  conv => whnf
  repeat (first | ((with_reducible first | apply ga | apply gb | apply gc | apply gd | apply ge | apply gf | apply gg | apply gh | apply gi | apply gj); conv => whnf) | (refine ⟨⟨rfl, rfl, nle rfl, nle rfl⟩, ?_⟩; conv => whnf) | fail)
  repeat (first | ((with_reducible first | apply ga | apply gb | apply gc | apply gd | apply ge | apply gf | apply gg | apply gh | apply gi | apply gj); conv => whnf) | (refine ⟨⟨rfl, rfl, nle rfl, nle rfl⟩, ?_⟩; conv => whnf) | (refine ⟨fun _ => ?_, fun h => absurd h (by decide)⟩; conv => whnf) | (refine ⟨fun h => absurd h (by decide), fun _ => ?_⟩; conv => whnf) | fail)
  refine CallK.flat [] f46 trivial rfl ?_
  conv => whnf
  repeat (first | ((with_reducible first | apply ga | apply gb | apply gc | apply gd | apply ge | apply gf | apply gg | apply gh | apply gi | apply gj); conv => whnf) | (refine ⟨⟨rfl, rfl, nle rfl, nle rfl⟩, ?_⟩; conv => whnf) | fail)
  refine ⟨⟨by decide, by decide, by decide, by decide⟩, ?_⟩
  conv => whnf
  repeat (first | ((with_reducible first | apply ga | apply gb | apply gc | apply gd | apply ge | apply gf | apply gg | apply gh | apply gi | apply gj); conv => whnf) | (refine ⟨⟨rfl, rfl, nle rfl, nle rfl⟩, ?_⟩; conv => whnf) | fail)
  exact ⟨[], agg4 .same .same .same .same⟩
theorem f33_3 : PureCall Tryd.prog 33 [u8 (3 : Nat)] (entV (ent 3)) := by
  refine PureCall.run tab_ok mixed (by kernel_rfl) Tryd.func33 rfl rfl rfl ?_
  conv => whnf
  repeat (first | ((with_reducible first | apply ga | apply gb | apply gc | apply gd | apply ge | apply gf | apply gg | apply gh | apply gi | apply gj); conv => whnf) | (refine ⟨⟨rfl, rfl, nle rfl, nle rfl⟩, ?_⟩; conv => whnf) | fail)
  repeat (first | ((with_reducible first | apply ga | apply gb | apply gc | apply gd | apply ge | apply gf | apply gg | apply gh | apply gi | apply gj); conv => whnf) | (refine ⟨⟨rfl, rfl, nle rfl, nle rfl⟩, ?_⟩; conv => whnf) | (refine ⟨fun _ => ?_, fun h => absurd h (by decide)⟩; conv => whnf) | (refine ⟨fun h => absurd h (by decide), fun _ => ?_⟩; conv => whnf) | fail)
  refine CallK.flat [] f46 trivial rfl ?_
  conv => whnf
  repeat (first | ((with_reducible first | apply ga | apply gb | apply gc | apply gd | apply ge | apply gf | apply gg | apply gh | apply gi | apply gj); conv => whnf) | (refine ⟨⟨rfl, rfl, nle rfl, nle rfl⟩, ?_⟩; conv => whnf) | fail)
  refine ⟨⟨by decide, by decide, by decide, by decide⟩, ?_⟩
  conv => whnf
  repeat (first | ((with_reducible first | apply ga | apply gb | apply gc | apply gd | apply ge | apply gf | apply gg | apply gh | apply gi | apply gj); conv => whnf) | (refine ⟨⟨rfl, rfl, nle rfl, nle rfl⟩, ?_⟩; conv => whnf) | fail)
  exact ⟨[], agg4 .same .same .same .same⟩
theorem f33_4 : PureCall Tryd.prog 33 [u8 (4 : Nat)] (entV (ent 4)) := by
  refine PureCall.run tab_ok mixed (by kernel_rfl) Tryd.func33 rfl rfl rfl ?_
  conv => whnf
  repeat (first | ((with_reducible first | apply ga | apply gb | apply gc | apply gd | apply ge | apply gf | apply gg | apply gh | apply gi | apply gj); conv => whnf) | (refine ⟨⟨rfl, rfl, nle rfl, nle rfl⟩, ?_⟩; conv => whnf) | fail)
  repeat (first | ((with_reducible first | apply ga | apply gb | apply gc | apply gd | apply ge | apply gf | apply gg | apply gh | apply gi | apply gj); conv => whnf) | (refine ⟨⟨rfl, rfl, nle rfl, nle rfl⟩, ?_⟩; conv => whnf) | (refine ⟨fun _ => ?_, fun h => absurd h (by decide)⟩; conv => whnf) | (refine ⟨fun h => absurd h (by decide), fun _ => ?_⟩; conv => whnf) | fail)
  refine CallK.flat [] f46 trivial rfl ?_
  conv => whnf
  repeat (first | ((with_reducible first | apply ga | apply gb | apply gc | apply gd | apply ge | apply gf | apply gg | apply gh | apply gi | apply gj); conv => whnf) | (refine ⟨⟨rfl, rfl, nle rfl, nle rfl⟩, ?_⟩; conv => whnf) | fail)
  refine ⟨⟨by decide, by decide, by decide, by decide⟩, ?_⟩
  conv => whnf
  repeat (first | ((with_reducible first | apply ga | apply gb | apply gc | apply gd | apply ge | apply gf | apply gg | apply gh | apply gi | apply gj); conv => whnf) | (refine ⟨⟨rfl, rfl, nle rfl, nle rfl⟩, ?_⟩; conv => whnf) | fail)
  exact ⟨[], agg4 .same .same .same .same⟩
theorem f33_5 : PureCall Tryd.prog 33 [u8 (5 : Nat)] (entV (ent 5)) := by
  refine PureCall.run tab_ok mixed (by kernel_rfl) Tryd.func33 rfl rfl rfl ?_
  conv => whnf
  repeat (first | ((with_reducible first | apply ga | apply gb | apply gc | apply gd | apply ge | apply gf | apply gg | apply gh | apply gi | apply gj); conv => whnf) | (refine ⟨⟨rfl, rfl, nle rfl, nle rfl⟩, ?_⟩; conv => whnf) | fail)
  repeat (first | ((with_reducible first | apply ga | apply gb | apply gc | apply gd | apply ge | apply gf | apply gg | apply gh | apply gi | apply gj); conv => whnf) | (refine ⟨⟨rfl, rfl, nle rfl, nle rfl⟩, ?_⟩; conv => whnf) | (refine ⟨fun _ => ?_, fun h => absurd h (by decide)⟩; conv => whnf) | (refine ⟨fun h => absurd h (by decide), fun _ => ?_⟩; conv => whnf) | fail)
  refine CallK.flat [] f46 trivial rfl ?_
  conv => whnf
  repeat (first | ((with_reducible first | apply ga | apply gb | apply gc | apply gd | apply ge | apply gf | apply gg | apply gh | apply gi | apply gj); conv => whnf) | (refine ⟨⟨rfl, rfl, nle rfl, nle rfl⟩, ?_⟩; conv => whnf) | fail)
  refine ⟨⟨by decide, by decide, by decide, by decide⟩, ?_⟩
  conv => whnf
  repeat (first | ((with_reducible first | apply ga | apply gb | apply gc | apply gd | apply ge | apply gf | apply gg | apply gh | apply gi | apply gj); conv => whnf) | (refine ⟨⟨rfl, rfl, nle rfl, nle rfl⟩, ?_⟩; conv => whnf) | fail)
  exact ⟨[], agg4 .same .same .same .same⟩
theorem f33_6 : PureCall Tryd.prog 33 [u8 (6 : Nat)] (entV (ent 6)) := by
  refine PureCall.run tab_ok mixed (by kernel_rfl) Tryd.func33 rfl rfl rfl ?_
  conv => whnf
  repeat (first | ((with_reducible first | apply ga | apply gb | apply gc | apply gd | apply ge | apply gf | apply gg | apply gh | apply gi | apply gj); conv => whnf) | (refine ⟨⟨rfl, rfl, nle rfl, nle rfl⟩, ?_⟩; conv => whnf) | fail)
  repeat (first | ((with_reducible first | apply ga | apply gb | apply gc | apply gd | apply ge | apply gf | apply gg | apply gh | apply gi | apply gj); conv => whnf) | (refine ⟨⟨rfl, rfl, nle rfl, nle rfl⟩, ?_⟩; conv => whnf) | (refine ⟨fun _ => ?_, fun h => absurd h (by decide)⟩; conv => whnf) | (refine ⟨fun h => absurd h (by decide), fun _ => ?_⟩; conv => whnf) | fail)
  refine CallK.flat [] f46 trivial rfl ?_
  conv => whnf
  repeat (first | ((with_reducible first | apply ga | apply gb | apply gc | apply gd | apply ge | apply gf | apply gg | apply gh | apply gi | apply gj); conv => whnf) | (refine ⟨⟨rfl, rfl, nle rfl, nle rfl⟩, ?_⟩; conv => whnf) | fail)
  refine ⟨⟨by decide, by decide, by decide, by decide⟩, ?_⟩
  conv => whnf
  repeat (first | ((with_reducible first | apply ga | apply gb | apply gc | apply gd | apply ge | apply gf | apply gg | apply gh | apply gi | apply gj); conv => whnf) | (refine ⟨⟨rfl, rfl, nle rfl, nle rfl⟩, ?_⟩; conv => whnf) | fail)
  exact ⟨[], agg4 .same .same .same .same⟩
theorem f33_7 : PureCall Tryd.prog 33 [u8 (7 : Nat)] (entV (ent 7)) := by
  refine PureCall.run tab_ok mixed (by kernel_rfl) Tryd.func33 rfl rfl rfl ?_
  conv => whnf
  repeat (first | ((with_reducible first | apply ga | apply gb | apply gc | apply gd | apply ge | apply gf | apply gg | apply gh | apply gi | apply gj); conv => whnf) | (refine ⟨⟨rfl, rfl, nle rfl, nle rfl⟩, ?_⟩; conv => whnf) | fail)
  repeat (first | ((with_reducible first | apply ga | apply gb | apply gc | apply gd | apply ge | apply gf | apply gg | apply gh | apply gi | apply gj); conv => whnf) | (refine ⟨⟨rfl, rfl, nle rfl, nle rfl⟩, ?_⟩; conv => whnf) | (refine ⟨fun _ => ?_, fun h => absurd h (by decide)⟩; conv => whnf) | (refine ⟨fun h => absurd h (by decide), fun _ => ?_⟩; conv => whnf) | fail)
  refine CallK.flat [] f46 trivial rfl ?_
  conv => whnf
  repeat (first | ((with_reducible first | apply ga | apply gb | apply gc | apply gd | apply ge | apply gf | apply gg | apply gh | apply gi | apply gj); conv => whnf) | (refine ⟨⟨rfl, rfl, nle rfl, nle rfl⟩, ?_⟩; conv => whnf) | fail)
  refine ⟨⟨by decide, by decide, by decide, by decide⟩, ?_⟩
  conv => whnf
  repeat (first | ((with_reducible first | apply ga | apply gb | apply gc | apply gd | apply ge | apply gf | apply gg | apply gh | apply gi | apply gj); conv => whnf) | (refine ⟨⟨rfl, rfl, nle rfl, nle rfl⟩, ?_⟩; conv => whnf) | fail)
  exact ⟨[], agg4 .same .same .same .same⟩
theorem f33_8 : PureCall Tryd.prog 33 [u8 (8 : Nat)] (entV (ent 8)) := by
  refine PureCall.run tab_ok mixed (by kernel_rfl) Tryd.func33 rfl rfl rfl ?_
  conv => whnf
  repeat (first | ((with_reducible first | apply ga | apply gb | apply gc | apply gd | apply ge | apply gf | apply gg | apply gh | apply gi | apply gj); conv => whnf) | (refine ⟨⟨rfl, rfl, nle rfl, nle rfl⟩, ?_⟩; conv => whnf) | fail)
  repeat (first | ((with_reducible first | apply ga | apply gb | apply gc | apply gd | apply ge | apply gf | apply gg | apply gh | apply gi | apply gj); conv => whnf) | (refine ⟨⟨rfl, rfl, nle rfl, nle rfl⟩, ?_⟩; conv => whnf) | (refine ⟨fun _ => ?_, fun h => absurd h (by decide)⟩; conv => whnf) | (refine ⟨fun h => absurd h (by decide), fun _ => ?_⟩; conv => whnf) | fail)
  refine CallK.flat [] f46 trivial rfl ?_
  conv => whnf
  repeat (first | ((with_reducible first | apply ga | apply gb | apply gc | apply gd | apply ge | apply gf | apply gg | apply gh | apply gi | apply gj); conv => whnf) | (refine ⟨⟨rfl, rfl, nle rfl, nle rfl⟩, ?_⟩; conv => whnf) | fail)
  refine ⟨⟨by decide, by decide, by decide, by decide⟩, ?_⟩
  conv => whnf
  repeat (first | ((with_reducible first | apply ga | apply gb | apply gc | apply gd | apply ge | apply gf | apply gg | apply gh | apply gi | apply gj); conv => whnf) | (refine ⟨⟨rfl, rfl, nle rfl, nle rfl⟩, ?_⟩; conv => whnf) | fail)
  exact ⟨[], agg4 .same .same .same .same⟩
theorem f33_9 : PureCall Tryd.prog 33 [u8 (9 : Nat)] (entV (ent 9)) := by
  refine PureCall.run tab_ok mixed (by kernel_rfl) Tryd.func33 rfl rfl rfl ?_
  conv => whnf
  repeat (first | ((with_reducible first | apply ga | apply gb | apply gc | apply gd | apply ge | apply gf | apply gg | apply gh | apply gi | apply gj); conv => whnf) | (refine ⟨⟨rfl, rfl, nle rfl, nle rfl⟩, ?_⟩; conv => whnf) | fail)
  repeat (first | ((with_reducible first | apply ga | apply gb | apply gc | apply gd | apply ge | apply gf | apply gg | apply gh | apply gi | apply gj); conv => whnf) | (refine ⟨⟨rfl, rfl, nle rfl, nle rfl⟩, ?_⟩; conv => whnf) | (refine ⟨fun _ => ?_, fun h => absurd h (by decide)⟩; conv => whnf) | (refine ⟨fun h => absurd h (by decide), fun _ => ?_⟩; conv => whnf) | fail)
  refine CallK.flat [] f46 trivial rfl ?_
  conv => whnf
  repeat (first | ((with_reducible first | apply ga | apply gb | apply gc | apply gd | apply ge | apply gf | apply gg | apply gh | apply gi | apply gj); conv => whnf) | (refine ⟨⟨rfl, rfl, nle rfl, nle rfl⟩, ?_⟩; conv => whnf) | fail)
  refine ⟨⟨by decide, by decide, by decide, by decide⟩, ?_⟩
  conv => whnf
  repeat (first | ((with_reducible first | apply ga | apply gb | apply gc | apply gd | apply ge | apply gf | apply gg | apply gh | apply gi | apply gj); conv => whnf) | (refine ⟨⟨rfl, rfl, nle rfl, nle rfl⟩, ?_⟩; conv => whnf) | fail)
  exact ⟨[], agg4 .same .same .same .same⟩
theorem f33_10 : PureCall Tryd.prog 33 [u8 (10 : Nat)] (entV (ent 10)) := by
  refine PureCall.run tab_ok mixed (by kernel_rfl) Tryd.func33 rfl rfl rfl ?_
  conv => whnf
  repeat (first | ((with_reducible first | apply ga | apply gb | apply gc | apply gd | apply ge | apply gf | apply gg | apply gh | apply gi | apply gj); conv => whnf) | (refine ⟨⟨rfl, rfl, nle rfl, nle rfl⟩, ?_⟩; conv => whnf) | fail)
  repeat (first | ((with_reducible first | apply ga | apply gb | apply gc | apply gd | apply ge | apply gf | apply gg | apply gh | apply gi | apply gj); conv => whnf) | (refine ⟨⟨rfl, rfl, nle rfl, nle rfl⟩, ?_⟩; conv => whnf) | (refine ⟨fun _ => ?_, fun h => absurd h (by decide)⟩; conv => whnf) | (refine ⟨fun h => absurd h (by decide), fun _ => ?_⟩; conv => whnf) | fail)
  refine CallK.flat [] f46 trivial rfl ?_
  conv => whnf
  repeat (first | ((with_reducible first | apply ga | apply gb | apply gc | apply gd | apply ge | apply gf | apply gg | apply gh | apply gi | apply gj); conv => whnf) | (refine ⟨⟨rfl, rfl, nle rfl, nle rfl⟩, ?_⟩; conv => whnf) | fail)
  refine ⟨⟨by decide, by decide, by decide, by decide⟩, ?_⟩
  conv => whnf
  repeat (first | ((with_reducible first | apply ga | apply gb | apply gc | apply gd | apply ge | apply gf | apply gg | apply gh | apply gi | apply gj); conv => whnf) | (refine ⟨⟨rfl, rfl, nle rfl, nle rfl⟩, ?_⟩; conv => whnf) | fail)
  exact ⟨[], agg4 .same .same .same .same⟩
theorem f33_11 : PureCall Tryd.prog 33 [u8 (11 : Nat)] (entV (ent 11)) := by
  refine PureCall.run tab_ok mixed (by kernel_rfl) Tryd.func33 rfl rfl rfl ?_
  conv => whnf
  repeat (first | ((with_reducible first | apply ga | apply gb | apply gc | apply gd | apply ge | apply gf | apply gg | apply gh | apply gi | apply gj); conv => whnf) | (refine ⟨⟨rfl, rfl, nle rfl, nle rfl⟩, ?_⟩; conv => whnf) | fail)
  repeat (first | ((with_reducible first | apply ga | apply gb | apply gc | apply gd | apply ge | apply gf | apply gg | apply gh | apply gi | apply gj); conv => whnf) | (refine ⟨⟨rfl, rfl, nle rfl, nle rfl⟩, ?_⟩; conv => whnf) | (refine ⟨fun _ => ?_, fun h => absurd h (by decide)⟩; conv => whnf) | (refine ⟨fun h => absurd h (by decide), fun _ => ?_⟩; conv => whnf) | fail)
  refine CallK.flat [] f46 trivial rfl ?_
  conv => whnf
  repeat (first | ((with_reducible first | apply ga | apply gb | apply gc | apply gd | apply ge | apply gf | apply gg | apply gh | apply gi | apply gj); conv => whnf) | (refine ⟨⟨rfl, rfl, nle rfl, nle rfl⟩, ?_⟩; conv => whnf) | fail)
  refine ⟨⟨by decide, by decide, by decide, by decide⟩, ?_⟩
  conv => whnf
  repeat (first | ((with_reducible first | apply ga | apply gb | apply gc | apply gd | apply ge | apply gf | apply gg | apply gh | apply gi | apply gj); conv => whnf) | (refine ⟨⟨rfl, rfl, nle rfl, nle rfl⟩, ?_⟩; conv => whnf) | fail)
  exact ⟨[], agg4 .same .same .same .same⟩
theorem f33_12 : PureCall Tryd.prog 33 [u8 (12 : Nat)] (entV (ent 12)) := by
  refine PureCall.run tab_ok mixed (by kernel_rfl) Tryd.func33 rfl rfl rfl ?_
  conv => whnf
  repeat (first | ((with_reducible first | apply ga | apply gb | apply gc | apply gd | apply ge | apply gf | apply gg | apply gh | apply gi | apply gj); conv => whnf) | (refine ⟨⟨rfl, rfl, nle rfl, nle rfl⟩, ?_⟩; conv => whnf) | fail)
  repeat (first | ((with_reducible first | apply ga | apply gb | apply gc | apply gd | apply ge | apply gf | apply gg | apply gh | apply gi | apply gj); conv => whnf) | (refine ⟨⟨rfl, rfl, nle rfl, nle rfl⟩, ?_⟩; conv => whnf) | (refine ⟨fun _ => ?_, fun h => absurd h (by decide)⟩; conv => whnf) | (refine ⟨fun h => absurd h (by decide), fun _ => ?_⟩; conv => whnf) | fail)
  refine CallK.flat [] f46 trivial rfl ?_
  conv => whnf
  repeat (first | ((with_reducible first | apply ga | apply gb | apply gc | apply gd | apply ge | apply gf | apply gg | apply gh | apply gi | apply gj); conv => whnf) | (refine ⟨⟨rfl, rfl, nle rfl, nle rfl⟩, ?_⟩; conv => whnf) | fail)
  refine ⟨⟨by decide, by decide, by decide, by decide⟩, ?_⟩
  conv => whnf
  repeat (first | ((with_reducible first | apply ga | apply gb | apply gc | apply gd | apply ge | apply gf | apply gg | apply gh | apply gi | apply gj); conv => whnf) | (refine ⟨⟨rfl, rfl, nle rfl, nle rfl⟩, ?_⟩; conv => whnf) | fail)
  exact ⟨[], agg4 .same .same .same .same⟩
theorem f33_13 : PureCall Tryd.prog 33 [u8 (13 : Nat)] (entV (ent 13)) := by
  refine PureCall.run tab_ok mixed (by kernel_rfl) Tryd.func33 rfl rfl rfl ?_
  conv => whnf
  repeat (first | ((with_reducible first | apply ga | apply gb | apply gc | apply gd | apply ge | apply gf | apply gg | apply gh | apply gi | apply gj); conv => whnf) | (refine ⟨⟨rfl, rfl, nle rfl, nle rfl⟩, ?_⟩; conv => whnf) | fail)
  repeat (first | ((with_reducible first | apply ga | apply gb | apply gc | apply gd | apply ge | apply gf | apply gg | apply gh | apply gi | apply gj); conv => whnf) | (refine ⟨⟨rfl, rfl, nle rfl, nle rfl⟩, ?_⟩; conv => whnf) | (refine ⟨fun _ => ?_, fun h => absurd h (by decide)⟩; conv => whnf) | (refine ⟨fun h => absurd h (by decide), fun _ => ?_⟩; conv => whnf) | fail)
  refine CallK.flat [] f46 trivial rfl ?_
  conv => whnf
  repeat (first | ((with_reducible first | apply ga | apply gb | apply gc | apply gd | apply ge | apply gf | apply gg | apply gh | apply gi | apply gj); conv => whnf) | (refine ⟨⟨rfl, rfl, nle rfl, nle rfl⟩, ?_⟩; conv => whnf) | fail)
  refine ⟨⟨by decide, by decide, by decide, by decide⟩, ?_⟩
  conv => whnf
  repeat (first | ((with_reducible first | apply ga | apply gb | apply gc | apply gd | apply ge | apply gf | apply gg | apply gh | apply gi | apply gj); conv => whnf) | (refine ⟨⟨rfl, rfl, nle rfl, nle rfl⟩, ?_⟩; conv => whnf) | fail)
  exact ⟨[], agg4 .same .same .same .same⟩
theorem f33_14 : PureCall Tryd.prog 33 [u8 (14 : Nat)] (entV (ent 14)) := by
  refine PureCall.run tab_ok mixed (by kernel_rfl) Tryd.func33 rfl rfl rfl ?_
  conv => whnf
  repeat (first | ((with_reducible first | apply ga | apply gb | apply gc | apply gd | apply ge | apply gf | apply gg | apply gh | apply gi | apply gj); conv => whnf) | (refine ⟨⟨rfl, rfl, nle rfl, nle rfl⟩, ?_⟩; conv => whnf) | fail)
  repeat (first | ((with_reducible first | apply ga | apply gb | apply gc | apply gd | apply ge | apply gf | apply gg | apply gh | apply gi | apply gj); conv => whnf) | (refine ⟨⟨rfl, rfl, nle rfl, nle rfl⟩, ?_⟩; conv => whnf) | (refine ⟨fun _ => ?_, fun h => absurd h (by decide)⟩; conv => whnf) | (refine ⟨fun h => absurd h (by decide), fun _ => ?_⟩; conv => whnf) | fail)
  refine CallK.flat [] f46 trivial rfl ?_
  conv => whnf
  repeat (first | ((with_reducible first | apply ga | apply gb | apply gc | apply gd | apply ge | apply gf | apply gg | apply gh | apply gi | apply gj); conv => whnf) | (refine ⟨⟨rfl, rfl, nle rfl, nle rfl⟩, ?_⟩; conv => whnf) | fail)
  refine ⟨⟨by decide, by decide, by decide, by decide⟩, ?_⟩
  conv => whnf
  repeat (first | ((with_reducible first | apply ga | apply gb | apply gc | apply gd | apply ge | apply gf | apply gg | apply gh | apply gi | apply gj); conv => whnf) | (refine ⟨⟨rfl, rfl, nle rfl, nle rfl⟩, ?_⟩; conv => whnf) | fail)
  exact ⟨[], agg4 .same .same .same .same⟩
theorem f33_15 : PureCall Tryd.prog 33 [u8 (15 : Nat)] (entV (ent 15)) := by
  refine PureCall.run tab_ok mixed (by kernel_rfl) Tryd.func33 rfl rfl rfl ?_
  conv => whnf
  repeat (first | ((with_reducible first | apply ga | apply gb | apply gc | apply gd | apply ge | apply gf | apply gg | apply gh | apply gi | apply gj); conv => whnf) | (refine ⟨⟨rfl, rfl, nle rfl, nle rfl⟩, ?_⟩; conv => whnf) | fail)
  repeat (first | ((with_reducible first | apply ga | apply gb | apply gc | apply gd | apply ge | apply gf | apply gg | apply gh | apply gi | apply gj); conv => whnf) | (refine ⟨⟨rfl, rfl, nle rfl, nle rfl⟩, ?_⟩; conv => whnf) | (refine ⟨fun _ => ?_, fun h => absurd h (by decide)⟩; conv => whnf) | (refine ⟨fun h => absurd h (by decide), fun _ => ?_⟩; conv => whnf) | fail)
  refine CallK.flat [] f46 trivial rfl ?_
  conv => whnf
  repeat (first | ((with_reducible first | apply ga | apply gb | apply gc | apply gd | apply ge | apply gf | apply gg | apply gh | apply gi | apply gj); conv => whnf) | (refine ⟨⟨rfl, rfl, nle rfl, nle rfl⟩, ?_⟩; conv => whnf) | fail)
  refine ⟨⟨by decide, by decide, by decide, by decide⟩, ?_⟩
  conv => whnf
  repeat (first | ((with_reducible first | apply ga | apply gb | apply gc | apply gd | apply ge | apply gf | apply gg | apply gh | apply gi | apply gj); conv => whnf) | (refine ⟨⟨rfl, rfl, nle rfl, nle rfl⟩, ?_⟩; conv => whnf) | fail)
  exact ⟨[], agg4 .same .same .same .same⟩
theorem f33_16 : PureCall Tryd.prog 33 [u8 (16 : Nat)] (entV (ent 16)) := by
  refine PureCall.run tab_ok mixed (by kernel_rfl) Tryd.func33 rfl rfl rfl ?_
  conv => whnf
  repeat (first | ((with_reducible first | apply ga | apply gb | apply gc | apply gd | apply ge | apply gf | apply gg | apply gh | apply gi | apply gj); conv => whnf) | (refine ⟨⟨rfl, rfl, nle rfl, nle rfl⟩, ?_⟩; conv => whnf) | fail)
  repeat (first | ((with_reducible first | apply ga | apply gb | apply gc | apply gd | apply ge | apply gf | apply gg | apply gh | apply gi | apply gj); conv => whnf) | (refine ⟨⟨rfl, rfl, nle rfl, nle rfl⟩, ?_⟩; conv => whnf) | (refine ⟨fun _ => ?_, fun h => absurd h (by decide)⟩; conv => whnf) | (refine ⟨fun h => absurd h (by decide), fun _ => ?_⟩; conv => whnf) | fail)
  refine CallK.flat [] f46 trivial rfl ?_
  conv => whnf
  repeat (first | ((with_reducible first | apply ga | apply gb | apply gc | apply gd | apply ge | apply gf | apply gg | apply gh | apply gi | apply gj); conv => whnf) | (refine ⟨⟨rfl, rfl, nle rfl, nle rfl⟩, ?_⟩; conv => whnf) | fail)
  refine ⟨⟨by decide, by decide, by decide, by decide⟩, ?_⟩
  conv => whnf
  repeat (first | ((with_reducible first | apply ga | apply gb | apply gc | apply gd | apply ge | apply gf | apply gg | apply gh | apply gi | apply gj); conv => whnf) | (refine ⟨⟨rfl, rfl, nle rfl, nle rfl⟩, ?_⟩; conv => whnf) | fail)
  exact ⟨[], agg4 .same .same .same .same⟩
theorem f33_17 : PureCall Tryd.prog 33 [u8 (17 : Nat)] (entV (ent 17)) := by
  refine PureCall.run tab_ok mixed (by kernel_rfl) Tryd.func33 rfl rfl rfl ?_
  conv => whnf
  repeat (first | ((with_reducible first | apply ga | apply gb | apply gc | apply gd | apply ge | apply gf | apply gg | apply gh | apply gi | apply gj); conv => whnf) | (refine ⟨⟨rfl, rfl, nle rfl, nle rfl⟩, ?_⟩; conv => whnf) | fail)
  repeat (first | ((with_reducible first | apply ga | apply gb | apply gc | apply gd | apply ge | apply gf | apply gg | apply gh | apply gi | apply gj); conv => whnf) | (refine ⟨⟨rfl, rfl, nle rfl, nle rfl⟩, ?_⟩; conv => whnf) | (refine ⟨fun _ => ?_, fun h => absurd h (by decide)⟩; conv => whnf) | (refine ⟨fun h => absurd h (by decide), fun _ => ?_⟩; conv => whnf) | fail)
  refine CallK.flat [] f46 trivial rfl ?_
  conv => whnf
  repeat (first | ((with_reducible first | apply ga | apply gb | apply gc | apply gd | apply ge | apply gf | apply gg | apply gh | apply gi | apply gj); conv => whnf) | (refine ⟨⟨rfl, rfl, nle rfl, nle rfl⟩, ?_⟩; conv => whnf) | fail)
  refine ⟨⟨by decide, by decide, by decide, by decide⟩, ?_⟩
  conv => whnf
  repeat (first | ((with_reducible first | apply ga | apply gb | apply gc | apply gd | apply ge | apply gf | apply gg | apply gh | apply gi | apply gj); conv => whnf) | (refine ⟨⟨rfl, rfl, nle rfl, nle rfl⟩, ?_⟩; conv => whnf) | fail)
  exact ⟨[], agg4 .same .same .same .same⟩
theorem f33_18 : PureCall Tryd.prog 33 [u8 (18 : Nat)] (entV (ent 18)) := by
  refine PureCall.run tab_ok mixed (by kernel_rfl) Tryd.func33 rfl rfl rfl ?_
  conv => whnf
  repeat (first | ((with_reducible first | apply ga | apply gb | apply gc | apply gd | apply ge | apply gf | apply gg | apply gh | apply gi | apply gj); conv => whnf) | (refine ⟨⟨rfl, rfl, nle rfl, nle rfl⟩, ?_⟩; conv => whnf) | fail)
  repeat (first | ((with_reducible first | apply ga | apply gb | apply gc | apply gd | apply ge | apply gf | apply gg | apply gh | apply gi | apply gj); conv => whnf) | (refine ⟨⟨rfl, rfl, nle rfl, nle rfl⟩, ?_⟩; conv => whnf) | (refine ⟨fun _ => ?_, fun h => absurd h (by decide)⟩; conv => whnf) | (refine ⟨fun h => absurd h (by decide), fun _ => ?_⟩; conv => whnf) | fail)
  refine CallK.flat [] f46 trivial rfl ?_
  conv => whnf
  repeat (first | ((with_reducible first | apply ga | apply gb | apply gc | apply gd | apply ge | apply gf | apply gg | apply gh | apply gi | apply gj); conv => whnf) | (refine ⟨⟨rfl, rfl, nle rfl, nle rfl⟩, ?_⟩; conv => whnf) | fail)
  refine ⟨⟨by decide, by decide, by decide, by decide⟩, ?_⟩
  conv => whnf
  repeat (first | ((with_reducible first | apply ga | apply gb | apply gc | apply gd | apply ge | apply gf | apply gg | apply gh | apply gi | apply gj); conv => whnf) | (refine ⟨⟨rfl, rfl, nle rfl, nle rfl⟩, ?_⟩; conv => whnf) | fail)
  exact ⟨[], agg4 .same .same .same .same⟩
theorem f33_19 : PureCall Tryd.prog 33 [u8 (19 : Nat)] (entV (ent 19)) := by
  refine PureCall.run tab_ok mixed (by kernel_rfl) Tryd.func33 rfl rfl rfl ?_
  conv => whnf
  repeat (first | ((with_reducible first | apply ga | apply gb | apply gc | apply gd | apply ge | apply gf | apply gg | apply gh | apply gi | apply gj); conv => whnf) | (refine ⟨⟨rfl, rfl, nle rfl, nle rfl⟩, ?_⟩; conv => whnf) | fail)
  repeat (first | ((with_reducible first | apply ga | apply gb | apply gc | apply gd | apply ge | apply gf | apply gg | apply gh | apply gi | apply gj); conv => whnf) | (refine ⟨⟨rfl, rfl, nle rfl, nle rfl⟩, ?_⟩; conv => whnf) | (refine ⟨fun _ => ?_, fun h => absurd h (by decide)⟩; conv => whnf) | (refine ⟨fun h => absurd h (by decide), fun _ => ?_⟩; conv => whnf) | fail)
  refine CallK.flat [] f46 trivial rfl ?_
  conv => whnf
  repeat (first | ((with_reducible first | apply ga | apply gb | apply gc | apply gd | apply ge | apply gf | apply gg | apply gh | apply gi | apply gj); conv => whnf) | (refine ⟨⟨rfl, rfl, nle rfl, nle rfl⟩, ?_⟩; conv => whnf) | fail)
  refine ⟨⟨by decide, by decide, by decide, by decide⟩, ?_⟩
  conv => whnf
  repeat (first | ((with_reducible first | apply ga | apply gb | apply gc | apply gd | apply ge | apply gf | apply gg | apply gh | apply gi | apply gj); conv => whnf) | (refine ⟨⟨rfl, rfl, nle rfl, nle rfl⟩, ?_⟩; conv => whnf) | fail)
  exact ⟨[], agg4 .same .same .same .same⟩
theorem f33_20 : PureCall Tryd.prog 33 [u8 (20 : Nat)] (entV (ent 20)) := by
  refine PureCall.run tab_ok mixed (by kernel_rfl) Tryd.func33 rfl rfl rfl ?_
  conv => whnf
  repeat (first | ((with_reducible first | apply ga | apply gb | apply gc | apply gd | apply ge | apply gf | apply gg | apply gh | apply gi | apply gj); conv => whnf) | (refine ⟨⟨rfl, rfl, nle rfl, nle rfl⟩, ?_⟩; conv => whnf) | fail)
  repeat (first | ((with_reducible first | apply ga | apply gb | apply gc | apply gd | apply ge | apply gf | apply gg | apply gh | apply gi | apply gj); conv => whnf) | (refine ⟨⟨rfl, rfl, nle rfl, nle rfl⟩, ?_⟩; conv => whnf) | (refine ⟨fun _ => ?_, fun h => absurd h (by decide)⟩; conv => whnf) | (refine ⟨fun h => absurd h (by decide), fun _ => ?_⟩; conv => whnf) | fail)
  refine CallK.flat [] f47 trivial rfl ?_
  conv => whnf
  repeat (first | ((with_reducible first | apply ga | apply gb | apply gc | apply gd | apply ge | apply gf | apply gg | apply gh | apply gi | apply gj); conv => whnf) | (refine ⟨⟨rfl, rfl, nle rfl, nle rfl⟩, ?_⟩; conv => whnf) | fail)
  refine ⟨⟨by decide, by decide, by decide, by decide⟩, ?_⟩
  conv => whnf
  repeat (first | ((with_reducible first | apply ga | apply gb | apply gc | apply gd | apply ge | apply gf | apply gg | apply gh | apply gi | apply gj); conv => whnf) | (refine ⟨⟨rfl, rfl, nle rfl, nle rfl⟩, ?_⟩; conv => whnf) | fail)
  exact ⟨[], agg4 .same .same .same .same⟩
theorem f33_21 : PureCall Tryd.prog 33 [u8 (21 : Nat)] (entV (ent 21)) := by
  refine PureCall.run tab_ok mixed (by kernel_rfl) Tryd.func33 rfl rfl rfl ?_
  conv => whnf
  repeat (first | ((with_reducible first | apply ga | apply gb | apply gc | apply gd | apply ge | apply gf | apply gg | apply gh | apply gi | apply gj); conv => whnf) | (refine ⟨⟨rfl, rfl, nle rfl, nle rfl⟩, ?_⟩; conv => whnf) | fail)
  repeat (first | ((with_reducible first | apply ga | apply gb | apply gc | apply gd | apply ge | apply gf | apply gg | apply gh | apply gi | apply gj); conv => whnf) | (refine ⟨⟨rfl, rfl, nle rfl, nle rfl⟩, ?_⟩; conv => whnf) | (refine ⟨fun _ => ?_, fun h => absurd h (by decide)⟩; conv => whnf) | (refine ⟨fun h => absurd h (by decide), fun _ => ?_⟩; conv => whnf) | fail)
  refine CallK.flat [] f47 trivial rfl ?_
  conv => whnf
  repeat (first | ((with_reducible first | apply ga | apply gb | apply gc | apply gd | apply ge | apply gf | apply gg | apply gh | apply gi | apply gj); conv => whnf) | (refine ⟨⟨rfl, rfl, nle rfl, nle rfl⟩, ?_⟩; conv => whnf) | fail)
  refine ⟨⟨by decide, by decide, by decide, by decide⟩, ?_⟩
  conv => whnf
  repeat (first | ((with_reducible first | apply ga | apply gb | apply gc | apply gd | apply ge | apply gf | apply gg | apply gh | apply gi | apply gj); conv => whnf) | (refine ⟨⟨rfl, rfl, nle rfl, nle rfl⟩, ?_⟩; conv => whnf) | fail)
  exact ⟨[], agg4 .same .same .same .same⟩
theorem f33_22 : PureCall Tryd.prog 33 [u8 (22 : Nat)] (entV (ent 22)) := by
  refine PureCall.run tab_ok mixed (by kernel_rfl) Tryd.func33 rfl rfl rfl ?_
  conv => whnf
  repeat (first | ((with_reducible first | apply ga | apply gb | apply gc | apply gd | apply ge | apply gf | apply gg | apply gh | apply gi | apply gj); conv => whnf) | (refine ⟨⟨rfl, rfl, nle rfl, nle rfl⟩, ?_⟩; conv => whnf) | fail)
  repeat (first | ((with_reducible first | apply ga | apply gb | apply gc | apply gd | apply ge | apply gf | apply gg | apply gh | apply gi | apply gj); conv => whnf) | (refine ⟨⟨rfl, rfl, nle rfl, nle rfl⟩, ?_⟩; conv => whnf) | (refine ⟨fun _ => ?_, fun h => absurd h (by decide)⟩; conv => whnf) | (refine ⟨fun h => absurd h (by decide), fun _ => ?_⟩; conv => whnf) | fail)
  refine CallK.flat [] f47 trivial rfl ?_
  conv => whnf
  repeat (first | ((with_reducible first | apply ga | apply gb | apply gc | apply gd | apply ge | apply gf | apply gg | apply gh | apply gi | apply gj); conv => whnf) | (refine ⟨⟨rfl, rfl, nle rfl, nle rfl⟩, ?_⟩; conv => whnf) | fail)
  refine ⟨⟨by decide, by decide, by decide, by decide⟩, ?_⟩
  conv => whnf
  repeat (first | ((with_reducible first | apply ga | apply gb | apply gc | apply gd | apply ge | apply gf | apply gg | apply gh | apply gi | apply gj); conv => whnf) | (refine ⟨⟨rfl, rfl, nle rfl, nle rfl⟩, ?_⟩; conv => whnf) | fail)
  exact ⟨[], agg4 .same .same .same .same⟩
theorem f33_23 : PureCall Tryd.prog 33 [u8 (23 : Nat)] (entV (ent 23)) := by
  refine PureCall.run tab_ok mixed (by kernel_rfl) Tryd.func33 rfl rfl rfl ?_
  conv => whnf
  repeat (first | ((with_reducible first | apply ga | apply gb | apply gc | apply gd | apply ge | apply gf | apply gg | apply gh | apply gi | apply gj); conv => whnf) | (refine ⟨⟨rfl, rfl, nle rfl, nle rfl⟩, ?_⟩; conv => whnf) | fail)
  repeat (first | ((with_reducible first | apply ga | apply gb | apply gc | apply gd | apply ge | apply gf | apply gg | apply gh | apply gi | apply gj); conv => whnf) | (refine ⟨⟨rfl, rfl, nle rfl, nle rfl⟩, ?_⟩; conv => whnf) | (refine ⟨fun _ => ?_, fun h => absurd h (by decide)⟩; conv => whnf) | (refine ⟨fun h => absurd h (by decide), fun _ => ?_⟩; conv => whnf) | fail)
  refine CallK.flat [] f47 trivial rfl ?_
  conv => whnf
  repeat (first | ((with_reducible first | apply ga | apply gb | apply gc | apply gd | apply ge | apply gf | apply gg | apply gh | apply gi | apply gj); conv => whnf) | (refine ⟨⟨rfl, rfl, nle rfl, nle rfl⟩, ?_⟩; conv => whnf) | fail)
  refine ⟨⟨by decide, by decide, by decide, by decide⟩, ?_⟩
  conv => whnf
  repeat (first | ((with_reducible first | apply ga | apply gb | apply gc | apply gd | apply ge | apply gf | apply gg | apply gh | apply gi | apply gj); conv => whnf) | (refine ⟨⟨rfl, rfl, nle rfl, nle rfl⟩, ?_⟩; conv => whnf) | fail)
  exact ⟨[], agg4 .same .same .same .same⟩
theorem f33_24 : PureCall Tryd.prog 33 [u8 (24 : Nat)] (entV (ent 24)) := by
  refine PureCall.run tab_ok mixed (by kernel_rfl) Tryd.func33 rfl rfl rfl ?_
  conv => whnf
  repeat (first | ((with_reducible first | apply ga | apply gb | apply gc | apply gd | apply ge | apply gf | apply gg | apply gh | apply gi | apply gj); conv => whnf) | (refine ⟨⟨rfl, rfl, nle rfl, nle rfl⟩, ?_⟩; conv => whnf) | fail)
  repeat (first | ((with_reducible first | apply ga | apply gb | apply gc | apply gd | apply ge | apply gf | apply gg | apply gh | apply gi | apply gj); conv => whnf) | (refine ⟨⟨rfl, rfl, nle rfl, nle rfl⟩, ?_⟩; conv => whnf) | (refine ⟨fun _ => ?_, fun h => absurd h (by decide)⟩; conv => whnf) | (refine ⟨fun h => absurd h (by decide), fun _ => ?_⟩; conv => whnf) | fail)
  refine CallK.flat [] f47 trivial rfl ?_
  conv => whnf
  repeat (first | ((with_reducible first | apply ga | apply gb | apply gc | apply gd | apply ge | apply gf | apply gg | apply gh | apply gi | apply gj); conv => whnf) | (refine ⟨⟨rfl, rfl, nle rfl, nle rfl⟩, ?_⟩; conv => whnf) | fail)
  refine ⟨⟨by decide, by decide, by decide, by decide⟩, ?_⟩
  conv => whnf
  repeat (first | ((with_reducible first | apply ga | apply gb | apply gc | apply gd | apply ge | apply gf | apply gg | apply gh | apply gi | apply gj); conv => whnf) | (refine ⟨⟨rfl, rfl, nle rfl, nle rfl⟩, ?_⟩; conv => whnf) | fail)
  exact ⟨[], agg4 .same .same .same .same⟩
theorem f33_25 : PureCall Tryd.prog 33 [u8 (25 : Nat)] (entV (ent 25)) := by
  refine PureCall.run tab_ok mixed (by kernel_rfl) Tryd.func33 rfl rfl rfl ?_
  conv => whnf
  repeat (first | ((with_reducible first | apply ga | apply gb | apply gc | apply gd | apply ge | apply gf | apply gg | apply gh | apply gi | apply gj); conv => whnf) | (refine ⟨⟨rfl, rfl, nle rfl, nle rfl⟩, ?_⟩; conv => whnf) | fail)
  repeat (first | ((with_reducible first | apply ga | apply gb | apply gc | apply gd | apply ge | apply gf | apply gg | apply gh | apply gi | apply gj); conv => whnf) | (refine ⟨⟨rfl, rfl, nle rfl, nle rfl⟩, ?_⟩; conv => whnf) | (refine ⟨fun _ => ?_, fun h => absurd h (by decide)⟩; conv => whnf) | (refine ⟨fun h => absurd h (by decide), fun _ => ?_⟩; conv => whnf) | fail)
  refine CallK.flat [] f47 trivial rfl ?_
  conv => whnf
  repeat (first | ((with_reducible first | apply ga | apply gb | apply gc | apply gd | apply ge | apply gf | apply gg | apply gh | apply gi | apply gj); conv => whnf) | (refine ⟨⟨rfl, rfl, nle rfl, nle rfl⟩, ?_⟩; conv => whnf) | fail)
  refine ⟨⟨by decide, by decide, by decide, by decide⟩, ?_⟩
  conv => whnf
  repeat (first | ((with_reducible first | apply ga | apply gb | apply gc | apply gd | apply ge | apply gf | apply gg | apply gh | apply gi | apply gj); conv => whnf) | (refine ⟨⟨rfl, rfl, nle rfl, nle rfl⟩, ?_⟩; conv => whnf) | fail)
  exact ⟨[], agg4 .same .same .same .same⟩
theorem f33_26 : PureCall Tryd.prog 33 [u8 (26 : Nat)] (entV (ent 26)) := by
  refine PureCall.run tab_ok mixed (by kernel_rfl) Tryd.func33 rfl rfl rfl ?_
  conv => whnf
  repeat (first | ((with_reducible first | apply ga | apply gb | apply gc | apply gd | apply ge | apply gf | apply gg | apply gh | apply gi | apply gj); conv => whnf) | (refine ⟨⟨rfl, rfl, nle rfl, nle rfl⟩, ?_⟩; conv => whnf) | fail)
  repeat (first | ((with_reducible first | apply ga | apply gb | apply gc | apply gd | apply ge | apply gf | apply gg | apply gh | apply gi | apply gj); conv => whnf) | (refine ⟨⟨rfl, rfl, nle rfl, nle rfl⟩, ?_⟩; conv => whnf) | (refine ⟨fun _ => ?_, fun h => absurd h (by decide)⟩; conv => whnf) | (refine ⟨fun h => absurd h (by decide), fun _ => ?_⟩; conv => whnf) | fail)
  refine CallK.flat [] f47 trivial rfl ?_
  conv => whnf
  repeat (first | ((with_reducible first | apply ga | apply gb | apply gc | apply gd | apply ge | apply gf | apply gg | apply gh | apply gi | apply gj); conv => whnf) | (refine ⟨⟨rfl, rfl, nle rfl, nle rfl⟩, ?_⟩; conv => whnf) | fail)
  refine ⟨⟨by decide, by decide, by decide, by decide⟩, ?_⟩
  conv => whnf
  repeat (first | ((with_reducible first | apply ga | apply gb | apply gc | apply gd | apply ge | apply gf | apply gg | apply gh | apply gi | apply gj); conv => whnf) | (refine ⟨⟨rfl, rfl, nle rfl, nle rfl⟩, ?_⟩; conv => whnf) | fail)
  exact ⟨[], agg4 .same .same .same .same⟩
theorem f33_27 : PureCall Tryd.prog 33 [u8 (27 : Nat)] (entV (ent 27)) := by
  refine PureCall.run tab_ok mixed (by kernel_rfl) Tryd.func33 rfl rfl rfl ?_
  conv => whnf
  repeat (first | ((with_reducible first | apply ga | apply gb | apply gc | apply gd | apply ge | apply gf | apply gg | apply gh | apply gi | apply gj); conv => whnf) | (refine ⟨⟨rfl, rfl, nle rfl, nle rfl⟩, ?_⟩; conv => whnf) | fail)
  repeat (first | ((with_reducible first | apply ga | apply gb | apply gc | apply gd | apply ge | apply gf | apply gg | apply gh | apply gi | apply gj); conv => whnf) | (refine ⟨⟨rfl, rfl, nle rfl, nle rfl⟩, ?_⟩; conv => whnf) | (refine ⟨fun _ => ?_, fun h => absurd h (by decide)⟩; conv => whnf) | (refine ⟨fun h => absurd h (by decide), fun _ => ?_⟩; conv => whnf) | fail)
  refine CallK.flat [] f47 trivial rfl ?_
  conv => whnf
  repeat (first | ((with_reducible first | apply ga | apply gb | apply gc | apply gd | apply ge | apply gf | apply gg | apply gh | apply gi | apply gj); conv => whnf) | (refine ⟨⟨rfl, rfl, nle rfl, nle rfl⟩, ?_⟩; conv => whnf) | fail)
  refine ⟨⟨by decide, by decide, by decide, by decide⟩, ?_⟩
  conv => whnf
  repeat (first | ((with_reducible first | apply ga | apply gb | apply gc | apply gd | apply ge | apply gf | apply gg | apply gh | apply gi | apply gj); conv => whnf) | (refine ⟨⟨rfl, rfl, nle rfl, nle rfl⟩, ?_⟩; conv => whnf) | fail)
  exact ⟨[], agg4 .same .same .same .same⟩
theorem f33_28 : PureCall Tryd.prog 33 [u8 (28 : Nat)] (entV (ent 28)) := by
  refine PureCall.run tab_ok mixed (by kernel_rfl) Tryd.func33 rfl rfl rfl ?_
  conv => whnf
  repeat (first | ((with_reducible first | apply ga | apply gb | apply gc | apply gd | apply ge | apply gf | apply gg | apply gh | apply gi | apply gj); conv => whnf) | (refine ⟨⟨rfl, rfl, nle rfl, nle rfl⟩, ?_⟩; conv => whnf) | fail)
  repeat (first | ((with_reducible first | apply ga | apply gb | apply gc | apply gd | apply ge | apply gf | apply gg | apply gh | apply gi | apply gj); conv => whnf) | (refine ⟨⟨rfl, rfl, nle rfl, nle rfl⟩, ?_⟩; conv => whnf) | (refine ⟨fun _ => ?_, fun h => absurd h (by decide)⟩; conv => whnf) | (refine ⟨fun h => absurd h (by decide), fun _ => ?_⟩; conv => whnf) | fail)
  refine CallK.flat [] f47 trivial rfl ?_
  conv => whnf
  repeat (first | ((with_reducible first | apply ga | apply gb | apply gc | apply gd | apply ge | apply gf | apply gg | apply gh | apply gi | apply gj); conv => whnf) | (refine ⟨⟨rfl, rfl, nle rfl, nle rfl⟩, ?_⟩; conv => whnf) | fail)
  refine ⟨⟨by decide, by decide, by decide, by decide⟩, ?_⟩
  conv => whnf
  repeat (first | ((with_reducible first | apply ga | apply gb | apply gc | apply gd | apply ge | apply gf | apply gg | apply gh | apply gi | apply gj); conv => whnf) | (refine ⟨⟨rfl, rfl, nle rfl, nle rfl⟩, ?_⟩; conv => whnf) | fail)
  exact ⟨[], agg4 .same .same .same .same⟩
theorem f33_29 : PureCall Tryd.prog 33 [u8 (29 : Nat)] (entV (ent 29)) := by
  refine PureCall.run tab_ok mixed (by kernel_rfl) Tryd.func33 rfl rfl rfl ?_
  conv => whnf
  repeat (first | ((with_reducible first | apply ga | apply gb | apply gc | apply gd | apply ge | apply gf | apply gg | apply gh | apply gi | apply gj); conv => whnf) | (refine ⟨⟨rfl, rfl, nle rfl, nle rfl⟩, ?_⟩; conv => whnf) | fail)
  repeat (first | ((with_reducible first | apply ga | apply gb | apply gc | apply gd | apply ge | apply gf | apply gg | apply gh | apply gi | apply gj); conv => whnf) | (refine ⟨⟨rfl, rfl, nle rfl, nle rfl⟩, ?_⟩; conv => whnf) | (refine ⟨fun _ => ?_, fun h => absurd h (by decide)⟩; conv => whnf) | (refine ⟨fun h => absurd h (by decide), fun _ => ?_⟩; conv => whnf) | fail)
  refine CallK.flat [] f47 trivial rfl ?_
  conv => whnf
  repeat (first | ((with_reducible first | apply ga | apply gb | apply gc | apply gd | apply ge | apply gf | apply gg | apply gh | apply gi | apply gj); conv => whnf) | (refine ⟨⟨rfl, rfl, nle rfl, nle rfl⟩, ?_⟩; conv => whnf) | fail)
  refine ⟨⟨by decide, by decide, by decide, by decide⟩, ?_⟩
  conv => whnf
  repeat (first | ((with_reducible first | apply ga | apply gb | apply gc | apply gd | apply ge | apply gf | apply gg | apply gh | apply gi | apply gj); conv => whnf) | (refine ⟨⟨rfl, rfl, nle rfl, nle rfl⟩, ?_⟩; conv => whnf) | fail)
  exact ⟨[], agg4 .same .same .same .same⟩
theorem f33_30 : PureCall Tryd.prog 33 [u8 (30 : Nat)] (entV (ent 30)) := by
  refine PureCall.run tab_ok mixed (by kernel_rfl) Tryd.func33 rfl rfl rfl ?_
  conv => whnf
  repeat (first | ((with_reducible first | apply ga | apply gb | apply gc | apply gd | apply ge | apply gf | apply gg | apply gh | apply gi | apply gj); conv => whnf) | (refine ⟨⟨rfl, rfl, nle rfl, nle rfl⟩, ?_⟩; conv => whnf) | fail)
  repeat (first | ((with_reducible first | apply ga | apply gb | apply gc | apply gd | apply ge | apply gf | apply gg | apply gh | apply gi | apply gj); conv => whnf) | (refine ⟨⟨rfl, rfl, nle rfl, nle rfl⟩, ?_⟩; conv => whnf) | (refine ⟨fun _ => ?_, fun h => absurd h (by decide)⟩; conv => whnf) | (refine ⟨fun h => absurd h (by decide), fun _ => ?_⟩; conv => whnf) | fail)
  refine CallK.flat [] f47 trivial rfl ?_
  conv => whnf
  repeat (first | ((with_reducible first | apply ga | apply gb | apply gc | apply gd | apply ge | apply gf | apply gg | apply gh | apply gi | apply gj); conv => whnf) | (refine ⟨⟨rfl, rfl, nle rfl, nle rfl⟩, ?_⟩; conv => whnf) | fail)
  refine ⟨⟨by decide, by decide, by decide, by decide⟩, ?_⟩
  conv => whnf
  repeat (first | ((with_reducible first | apply ga | apply gb | apply gc | apply gd | apply ge | apply gf | apply gg | apply gh | apply gi | apply gj); conv => whnf) | (refine ⟨⟨rfl, rfl, nle rfl, nle rfl⟩, ?_⟩; conv => whnf) | fail)
  exact ⟨[], agg4 .same .same .same .same⟩
theorem f33_31 : PureCall Tryd.prog 33 [u8 (31 : Nat)] (entV (ent 31)) := by
  refine PureCall.run tab_ok mixed (by kernel_rfl) Tryd.func33 rfl rfl rfl ?_
  conv => whnf
  repeat (first | ((with_reducible first | apply ga | apply gb | apply gc | apply gd | apply ge | apply gf | apply gg | apply gh | apply gi | apply gj); conv => whnf) | (refine ⟨⟨rfl, rfl, nle rfl, nle rfl⟩, ?_⟩; conv => whnf) | fail)
  repeat (first | ((with_reducible first | apply ga | apply gb | apply gc | apply gd | apply ge | apply gf | apply gg | apply gh | apply gi | apply gj); conv => whnf) | (refine ⟨⟨rfl, rfl, nle rfl, nle rfl⟩, ?_⟩; conv => whnf) | (refine ⟨fun _ => ?_, fun h => absurd h (by decide)⟩; conv => whnf) | (refine ⟨fun h => absurd h (by decide), fun _ => ?_⟩; conv => whnf) | fail)
  refine CallK.flat [] f47 trivial rfl ?_
  conv => whnf
  repeat (first | ((with_reducible first | apply ga | apply gb | apply gc | apply gd | apply ge | apply gf | apply gg | apply gh | apply gi | apply gj); conv => whnf) | (refine ⟨⟨rfl, rfl, nle rfl, nle rfl⟩, ?_⟩; conv => whnf) | fail)
  refine ⟨⟨by decide, by decide, by decide, by decide⟩, ?_⟩
  conv => whnf
  repeat (first | ((with_reducible first | apply ga | apply gb | apply gc | apply gd | apply ge | apply gf | apply gg | apply gh | apply gi | apply gj); conv => whnf) | (refine ⟨⟨rfl, rfl, nle rfl, nle rfl⟩, ?_⟩; conv => whnf) | fail)
  exact ⟨[], agg4 .same .same .same .same⟩
theorem f33_32 : PureCall Tryd.prog 33 [u8 (32 : Nat)] (entV (ent 32)) := by
  refine PureCall.run tab_ok mixed (by kernel_rfl) Tryd.func33 rfl rfl rfl ?_
  conv => whnf
  repeat (first | ((with_reducible first | apply ga | apply gb | apply gc | apply gd | apply ge | apply gf | apply gg | apply gh | apply gi | apply gj); conv => whnf) | (refine ⟨⟨rfl, rfl, nle rfl, nle rfl⟩, ?_⟩; conv => whnf) | fail)
  repeat (first | ((with_reducible first | apply ga | apply gb | apply gc | apply gd | apply ge | apply gf | apply gg | apply gh | apply gi | apply gj); conv => whnf) | (refine ⟨⟨rfl, rfl, nle rfl, nle rfl⟩, ?_⟩; conv => whnf) | (refine ⟨fun _ => ?_, fun h => absurd h (by decide)⟩; conv => whnf) | (refine ⟨fun h => absurd h (by decide), fun _ => ?_⟩; conv => whnf) | fail)
  refine CallK.flat [] f47 trivial rfl ?_
  conv => whnf
  repeat (first | ((with_reducible first | apply ga | apply gb | apply gc | apply gd | apply ge | apply gf | apply gg | apply gh | apply gi | apply gj); conv => whnf) | (refine ⟨⟨rfl, rfl, nle rfl, nle rfl⟩, ?_⟩; conv => whnf) | fail)
  refine ⟨⟨by decide, by decide, by decide, by decide⟩, ?_⟩
  conv => whnf
  repeat (first | ((with_reducible first | apply ga | apply gb | apply gc | apply gd | apply ge | apply gf | apply gg | apply gh | apply gi | apply gj); conv => whnf) | (refine ⟨⟨rfl, rfl, nle rfl, nle rfl⟩, ?_⟩; conv => whnf) | fail)
  exact ⟨[], agg4 .same .same .same .same⟩
theorem f33_33 : PureCall Tryd.prog 33 [u8 (33 : Nat)] (entV (ent 33)) := by
  refine PureCall.run tab_ok mixed (by kernel_rfl) Tryd.func33 rfl rfl rfl ?_
  conv => whnf
  repeat (first | ((with_reducible first | apply ga | apply gb | apply gc | apply gd | apply ge | apply gf | apply gg | apply gh | apply gi | apply gj); conv => whnf) | (refine ⟨⟨rfl, rfl, nle rfl, nle rfl⟩, ?_⟩; conv => whnf) | fail)
  repeat (first | ((with_reducible first | apply ga | apply gb | apply gc | apply gd | apply ge | apply gf | apply gg | apply gh | apply gi | apply gj); conv => whnf) | (refine ⟨⟨rfl, rfl, nle rfl, nle rfl⟩, ?_⟩; conv => whnf) | (refine ⟨fun _ => ?_, fun h => absurd h (by decide)⟩; conv => whnf) | (refine ⟨fun h => absurd h (by decide), fun _ => ?_⟩; conv => whnf) | fail)
  refine CallK.flat [] f47 trivial rfl ?_
  conv => whnf
  repeat (first | ((with_reducible first | apply ga | apply gb | apply gc | apply gd | apply ge | apply gf | apply gg | apply gh | apply gi | apply gj); conv => whnf) | (refine ⟨⟨rfl, rfl, nle rfl, nle rfl⟩, ?_⟩; conv => whnf) | fail)
  refine ⟨⟨by decide, by decide, by decide, by decide⟩, ?_⟩
  conv => whnf
  repeat (first | ((with_reducible first | apply ga | apply gb | apply gc | apply gd | apply ge | apply gf | apply gg | apply gh | apply gi | apply gj); conv => whnf) | (refine ⟨⟨rfl, rfl, nle rfl, nle rfl⟩, ?_⟩; conv => whnf) | fail)
  exact ⟨[], agg4 .same .same .same .same⟩
theorem f33_34 : PureCall Tryd.prog 33 [u8 (34 : Nat)] (entV (ent 34)) := by
  refine PureCall.run tab_ok mixed (by kernel_rfl) Tryd.func33 rfl rfl rfl ?_
  conv => whnf
  repeat (first | ((with_reducible first | apply ga | apply gb | apply gc | apply gd | apply ge | apply gf | apply gg | apply gh | apply gi | apply gj); conv => whnf) | (refine ⟨⟨rfl, rfl, nle rfl, nle rfl⟩, ?_⟩; conv => whnf) | fail)
  repeat (first | ((with_reducible first | apply ga | apply gb | apply gc | apply gd | apply ge | apply gf | apply gg | apply gh | apply gi | apply gj); conv => whnf) | (refine ⟨⟨rfl, rfl, nle rfl, nle rfl⟩, ?_⟩; conv => whnf) | (refine ⟨fun _ => ?_, fun h => absurd h (by decide)⟩; conv => whnf) | (refine ⟨fun h => absurd h (by decide), fun _ => ?_⟩; conv => whnf) | fail)
  refine CallK.flat [] f47 trivial rfl ?_
  conv => whnf
  repeat (first | ((with_reducible first | apply ga | apply gb | apply gc | apply gd | apply ge | apply gf | apply gg | apply gh | apply gi | apply gj); conv => whnf) | (refine ⟨⟨rfl, rfl, nle rfl, nle rfl⟩, ?_⟩; conv => whnf) | fail)
  refine ⟨⟨by decide, by decide, by decide, by decide⟩, ?_⟩
  conv => whnf
  repeat (first | ((with_reducible first | apply ga | apply gb | apply gc | apply gd | apply ge | apply gf | apply gg | apply gh | apply gi | apply gj); conv => whnf) | (refine ⟨⟨rfl, rfl, nle rfl, nle rfl⟩, ?_⟩; conv => whnf) | fail)
  exact ⟨[], agg4 .same .same .same .same⟩
theorem f33_35 : PureCall Tryd.prog 33 [u8 (35 : Nat)] (entV (ent 35)) := by
  refine PureCall.run tab_ok mixed (by kernel_rfl) Tryd.func33 rfl rfl rfl ?_
  conv => whnf
  repeat (first | ((with_reducible first | apply ga | apply gb | apply gc | apply gd | apply ge | apply gf | apply gg | apply gh | apply gi | apply gj); conv => whnf) | (refine ⟨⟨rfl, rfl, nle rfl, nle rfl⟩, ?_⟩; conv => whnf) | fail)
  repeat (first | ((with_reducible first | apply ga | apply gb | apply gc | apply gd | apply ge | apply gf | apply gg | apply gh | apply gi | apply gj); conv => whnf) | (refine ⟨⟨rfl, rfl, nle rfl, nle rfl⟩, ?_⟩; conv => whnf) | (refine ⟨fun _ => ?_, fun h => absurd h (by decide)⟩; conv => whnf) | (refine ⟨fun h => absurd h (by decide), fun _ => ?_⟩; conv => whnf) | fail)
  refine CallK.flat [] f47 trivial rfl ?_
  conv => whnf
  repeat (first | ((with_reducible first | apply ga | apply gb | apply gc | apply gd | apply ge | apply gf | apply gg | apply gh | apply gi | apply gj); conv => whnf) | (refine ⟨⟨rfl, rfl, nle rfl, nle rfl⟩, ?_⟩; conv => whnf) | fail)
  refine ⟨⟨by decide, by decide, by decide, by decide⟩, ?_⟩
  conv => whnf
  repeat (first | ((with_reducible first | apply ga | apply gb | apply gc | apply gd | apply ge | apply gf | apply gg | apply gh | apply gi | apply gj); conv => whnf) | (refine ⟨⟨rfl, rfl, nle rfl, nle rfl⟩, ?_⟩; conv => whnf) | fail)
  exact ⟨[], agg4 .same .same .same .same⟩
theorem f33_36 : PureCall Tryd.prog 33 [u8 (36 : Nat)] (entV (ent 36)) := by
  refine PureCall.run tab_ok mixed (by kernel_rfl) Tryd.func33 rfl rfl rfl ?_
  conv => whnf
  repeat (first | ((with_reducible first | apply ga | apply gb | apply gc | apply gd | apply ge | apply gf | apply gg | apply gh | apply gi | apply gj); conv => whnf) | (refine ⟨⟨rfl, rfl, nle rfl, nle rfl⟩, ?_⟩; conv => whnf) | fail)
  repeat (first | ((with_reducible first | apply ga | apply gb | apply gc | apply gd | apply ge | apply gf | apply gg | apply gh | apply gi | apply gj); conv => whnf) | (refine ⟨⟨rfl, rfl, nle rfl, nle rfl⟩, ?_⟩; conv => whnf) | (refine ⟨fun _ => ?_, fun h => absurd h (by decide)⟩; conv => whnf) | (refine ⟨fun h => absurd h (by decide), fun _ => ?_⟩; conv => whnf) | fail)
  refine CallK.flat [] f47 trivial rfl ?_
  conv => whnf
  repeat (first | ((with_reducible first | apply ga | apply gb | apply gc | apply gd | apply ge | apply gf | apply gg | apply gh | apply gi | apply gj); conv => whnf) | (refine ⟨⟨rfl, rfl, nle rfl, nle rfl⟩, ?_⟩; conv => whnf) | fail)
  refine ⟨⟨by decide, by decide, by decide, by decide⟩, ?_⟩
  conv => whnf
  repeat (first | ((with_reducible first | apply ga | apply gb | apply gc | apply gd | apply ge | apply gf | apply gg | apply gh | apply gi | apply gj); conv => whnf) | (refine ⟨⟨rfl, rfl, nle rfl, nle rfl⟩, ?_⟩; conv => whnf) | fail)
  exact ⟨[], agg4 .same .same .same .same⟩
theorem f33_37 : PureCall Tryd.prog 33 [u8 (37 : Nat)] (entV (ent 37)) := by
  refine PureCall.run tab_ok mixed (by kernel_rfl) Tryd.func33 rfl rfl rfl ?_
  conv => whnf
  repeat (first | ((with_reducible first | apply ga | apply gb | apply gc | apply gd | apply ge | apply gf | apply gg | apply gh | apply gi | apply gj); conv => whnf) | (refine ⟨⟨rfl, rfl, nle rfl, nle rfl⟩, ?_⟩; conv => whnf) | fail)
  repeat (first | ((with_reducible first | apply ga | apply gb | apply gc | apply gd | apply ge | apply gf | apply gg | apply gh | apply gi | apply gj); conv => whnf) | (refine ⟨⟨rfl, rfl, nle rfl, nle rfl⟩, ?_⟩; conv => whnf) | (refine ⟨fun _ => ?_, fun h => absurd h (by decide)⟩; conv => whnf) | (refine ⟨fun h => absurd h (by decide), fun _ => ?_⟩; conv => whnf) | fail)
  refine CallK.flat [] f47 trivial rfl ?_
  conv => whnf
  repeat (first | ((with_reducible first | apply ga | apply gb | apply gc | apply gd | apply ge | apply gf | apply gg | apply gh | apply gi | apply gj); conv => whnf) | (refine ⟨⟨rfl, rfl, nle rfl, nle rfl⟩, ?_⟩; conv => whnf) | fail)
  refine ⟨⟨by decide, by decide, by decide, by decide⟩, ?_⟩
  conv => whnf
  repeat (first | ((with_reducible first | apply ga | apply gb | apply gc | apply gd | apply ge | apply gf | apply gg | apply gh | apply gi | apply gj); conv => whnf) | (refine ⟨⟨rfl, rfl, nle rfl, nle rfl⟩, ?_⟩; conv => whnf) | fail)
  exact ⟨[], agg4 .same .same .same .same⟩
theorem f33_38 : PureCall Tryd.prog 33 [u8 (38 : Nat)] (entV (ent 38)) := by
  refine PureCall.run tab_ok mixed (by kernel_rfl) Tryd.func33 rfl rfl rfl ?_
  conv => whnf
  repeat (first | ((with_reducible first | apply ga | apply gb | apply gc | apply gd | apply ge | apply gf | apply gg | apply gh | apply gi | apply gj); conv => whnf) | (refine ⟨⟨rfl, rfl, nle rfl, nle rfl⟩, ?_⟩; conv => whnf) | fail)
  repeat (first | ((with_reducible first | apply ga | apply gb | apply gc | apply gd | apply ge | apply gf | apply gg | apply gh | apply gi | apply gj); conv => whnf) | (refine ⟨⟨rfl, rfl, nle rfl, nle rfl⟩, ?_⟩; conv => whnf) | (refine ⟨fun _ => ?_, fun h => absurd h (by decide)⟩; conv => whnf) | (refine ⟨fun h => absurd h (by decide), fun _ => ?_⟩; conv => whnf) | fail)
  refine CallK.flat [] f47 trivial rfl ?_
  conv => whnf
  repeat (first | ((with_reducible first | apply ga | apply gb | apply gc | apply gd | apply ge | apply gf | apply gg | apply gh | apply gi | apply gj); conv => whnf) | (refine ⟨⟨rfl, rfl, nle rfl, nle rfl⟩, ?_⟩; conv => whnf) | fail)
  refine ⟨⟨by decide, by decide, by decide, by decide⟩, ?_⟩
  conv => whnf
  repeat (first | ((with_reducible first | apply ga | apply gb | apply gc | apply gd | apply ge | apply gf | apply gg | apply gh | apply gi | apply gj); conv => whnf) | (refine ⟨⟨rfl, rfl, nle rfl, nle rfl⟩, ?_⟩; conv => whnf) | fail)
  exact ⟨[], agg4 .same .same .same .same⟩
theorem f33_39 : PureCall Tryd.prog 33 [u8 (39 : Nat)] (entV (ent 39)) := by
  refine PureCall.run tab_ok mixed (by kernel_rfl) Tryd.func33 rfl rfl rfl ?_
  conv => whnf
  repeat (first | ((with_reducible first | apply ga | apply gb | apply gc | apply gd | apply ge | apply gf | apply gg | apply gh | apply gi | apply gj); conv => whnf) | (refine ⟨⟨rfl, rfl, nle rfl, nle rfl⟩, ?_⟩; conv => whnf) | fail)
  repeat (first | ((with_reducible first | apply ga | apply gb | apply gc | apply gd | apply ge | apply gf | apply gg | apply gh | apply gi | apply gj); conv => whnf) | (refine ⟨⟨rfl, rfl, nle rfl, nle rfl⟩, ?_⟩; conv => whnf) | (refine ⟨fun _ => ?_, fun h => absurd h (by decide)⟩; conv => whnf) | (refine ⟨fun h => absurd h (by decide), fun _ => ?_⟩; conv => whnf) | fail)
  refine CallK.flat [] f47 trivial rfl ?_
  conv => whnf
  repeat (first | ((with_reducible first | apply ga | apply gb | apply gc | apply gd | apply ge | apply gf | apply gg | apply gh | apply gi | apply gj); conv => whnf) | (refine ⟨⟨rfl, rfl, nle rfl, nle rfl⟩, ?_⟩; conv => whnf) | fail)
  refine ⟨⟨by decide, by decide, by decide, by decide⟩, ?_⟩
  conv => whnf
  repeat (first | ((with_reducible first | apply ga | apply gb | apply gc | apply gd | apply ge | apply gf | apply gg | apply gh | apply gi | apply gj); conv => whnf) | (refine ⟨⟨rfl, rfl, nle rfl, nle rfl⟩, ?_⟩; conv => whnf) | fail)
  exact ⟨[], agg4 .same .same .same .same⟩
theorem f33 : ∀ c : Nat, 1 ≤ c → c ≤ 39 → PureCall Tryd.prog 33 [u8 c] (entV (ent c))
  | 0, h, _ => absurd h (by decide)
  | 1, _, _ => f33_1
  | 2, _, _ => f33_2
  | 3, _, _ => f33_3
  | 4, _, _ => f33_4
  | 5, _, _ => f33_5
  | 6, _, _ => f33_6
  | 7, _, _ => f33_7
  | 8, _, _ => f33_8
  | 9, _, _ => f33_9
  | 10, _, _ => f33_10
  | 11, _, _ => f33_11
  | 12, _, _ => f33_12
  | 13, _, _ => f33_13
  | 14, _, _ => f33_14
  | 15, _, _ => f33_15
  | 16, _, _ => f33_16
  | 17, _, _ => f33_17
  | 18, _, _ => f33_18
  | 19, _, _ => f33_19
  | 20, _, _ => f33_20
  | 21, _, _ => f33_21
  | 22, _, _ => f33_22
  | 23, _, _ => f33_23
  | 24, _, _ => f33_24
  | 25, _, _ => f33_25
  | 26, _, _ => f33_26
  | 27, _, _ => f33_27
  | 28, _, _ => f33_28
  | 29, _, _ => f33_29
  | 30, _, _ => f33_30
  | 31, _, _ => f33_31
  | 32, _, _ => f33_32
  | 33, _, _ => f33_33
  | 34, _, _ => f33_34
  | 35, _, _ => f33_35
  | 36, _, _ => f33_36
  | 37, _, _ => f33_37
  | 38, _, _ => f33_38
  | 39, _, _ => f33_39
  | c + 40, _, h => absurd h (by omega)
end Go.Proofs.YtolgdbekdkldjaaDoor
