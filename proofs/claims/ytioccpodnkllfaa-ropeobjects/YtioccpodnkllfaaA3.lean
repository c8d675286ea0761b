/- Part of the proof: an abstract machine, what is read of arguments, rows, recovery, drawn orders and maps, and that they are sound. -/
import Derived.Test.YtioccpodnkllfaaA2
import Derived.OpenShut
import Derived.ProofKit
import Derived.Deep.Slices
import Derived.WideKeyArgs
import Derived.ChangeSame
import Derived.RecoverIn
namespace Go.AM
open Go Go.RowKit

/-- The elements are these integers. -/
def IsL (f : Nat → Nat → AV) (k : IntKind) (L : List Int) : Prop := ∀ i, i < L.length → f i 0 = .pv (.int k (L.getD i 0))

theorem IsL.nil {f : Nat → Nat → AV} {k : IntKind} : IsL f k [] := fun i hi => absurd hi (by simp)
theorem IsL.one {f : Nat → Nat → AV} {k : IntKind} {a : Int} (h : f 0 0 = .pv (.int k a)) : IsL f k [a] := fun i hi => by
  have : i = 0 := by simp at hi; omega
  subst this; exact h
theorem IsL.seq {k : IntKind} {L : List Int} : IsL (fun i _ => .pv (.int k (L.getD i 0))) k L := fun _ _ => rfl
theorem IsL.cat {f g : Nat → Nat → AV} {k : IntKind} {L M : List Int} {n : Nat} (hf : IsL f k L) (hg : IsL g k M) (hn : n = L.length) : IsL (catF f g n) k (L ++ M) := by
  intro i hi
  simp only [List.length_append] at hi
  unfold catF
  by_cases h : i < L.length
  · rw [Nat.ble_eq_true_of_le (by omega : i + 1 ≤ n)]
    simp only [cond_true]
    rw [hf i h, List.getD_eq_getElem?_getD, List.getD_eq_getElem?_getD, List.getElem?_append_left h]
  · have : Nat.ble (i + 1) n = false := by
      cases hc : Nat.ble (i + 1) n with
      | true => have := Nat.le_of_ble_eq_true hc; omega
      | false => rfl
    rw [this]
    simp only [cond_false]
    rw [hg (i - n) (by omega), List.getD_eq_getElem?_getD, List.getD_eq_getElem?_getD, List.getElem?_append_right (by omega), hn]

theorem IsL.cat' {F f g : Nat → Nat → AV} {k : IntKind} {K : List Int} {n : Nat} (L M : List Int) (hK : K = L ++ M) (hF : F = catF f g n) (hn : n = L.length) (hf : IsL f k L) (hg : IsL g k M) : IsL F k K := by
  subst hK; subst hF; exact hf.cat hg hn

section
variable {H : Heap} {B : List Nat} {U : List (Nat × Nat)}

theorem VLe.frzL {id gen sz off len : Nat} {E : TypeId} {k : IntKind} {L : List Int} (o : AO) (hb : memN id B = true) (ho : H id = some o) (hg : gen = o.gen) (h1 : sz = 1) (hs : o.sz = 1) (hn : off + len ≤ o.n) (hl : len = L.length)
    (h : IsL (fun i j => o.f (off + i) j) k L) : VLe H B U (.row id gen sz off len) (.pv (sq E k L)) := by
  subst hl; subst h1
  refine .frz id gen 1 off _ o E _ hb ho hg hs.symm hn fun i j hi hj => ?_
  have hj0 : j = 0 := by omega
  subst hj0
  have := h i hi
  simp only at this
  rw [this]
  exact .same
theorem VLe.frz0 {id gen sz len : Nat} {E : TypeId} {k : IntKind} {L : List Int} (o : AO) (hb : memN id B = true) (ho : H id = some o) (hg : gen = o.gen) (h1 : sz = 1) (hs : o.sz = 1) (hn : len ≤ o.n) (hl : len = L.length)
    (h : IsL o.f k L) : VLe H B U (.row id gen sz 0 len) (.pv (sq E k L)) :=
  VLe.frzL o hb ho hg h1 hs (by omega) hl (fun i hi => by have := h i hi; simpa using this)
/-- A slice that is only read, said as a list. -/
theorem VLe.seqL {sz n : Nat} {E E' : TypeId} {k : IntKind} {L : List Int} {f : Nat → Nat → PV} (h1 : sz = 1) (hl : n = L.length) (h : ∀ i, i < L.length → f i 0 = .int k (L.getD i 0)) : VLe H B U (.pv (.seq E sz n f)) (.pv (sq E' k L)) := by
  subst hl; subst h1
  refine .pv _ _ (.seq _ _ _ _ _ _ fun i j hi hj => ?_)
  have hj0 : j = 0 := by omega
  subst hj0
  rw [h i hi]
  exact .refl _
theorem VLe.nilL {E : TypeId} {k : IntKind} : VLe H B U .nilS (.pv (sq E k [])) := .nil _ _ _

/-- A row that holds a list. -/
def rowL (E : TypeId) (k : IntKind) (gen : Nat) (L : List Int) : AO := ⟨E, gen, 1, L.length, fun i _ => .pv (.int k (L.getD i 0))⟩
theorem OLe.rowL {o : AO} {E : TypeId} {k : IntKind} {gen : Nat} {L : List Int} (hE : E = o.E) (hg : gen = o.gen) (hs : o.sz = 1) (hn : L.length ≤ o.n) (h : IsL o.f k L) : OLe H B U o (rowL E k gen L) := by
  refine ⟨hE, hg, hs.symm, hn, fun i j hi hj => ?_⟩
  have hj0 : j = 0 := by omega
  subst hj0
  rw [h i hi]
  exact .same
end

theorem nle {a b : Nat} (h : Nat.ble a b = true) : a ≤ b := Nat.le_of_ble_eq_true h

end Go.AM

namespace Go.AM
open Go Go.RowKit

/-- These blocks lie as they lay. -/
structure KeepW (Y : Blocks) (W W' : World) : Prop where
  os : W'.os = W.os
  tape : W'.tape = W.tape
  output : W'.output = W.output
  size : W.heap.size ≤ W'.heap.size
  same : ∀ b, Y b → W'.heap[b]? = W.heap[b]?
  sizes : ∀ b, bsize W b ≤ bsize W' b

/-- What the caller of an iterator knows: what has come, whether it has said to stop, and which blocks are not its own. -/
abbrev JT := List (List AV) → Bool → Blocks → World → Prop

def Stab (J : JT) : Prop := ∀ pre stop X W W', J pre stop X W → KeepW (fun b => b < W.heap.size ∧ ¬ X b) W W' → J pre stop (fun b => X b ∨ (W.heap.size ≤ b ∧ b < W'.heap.size)) W'

/-- g, called with a yield, hands to it what is valid, and all that is full if it is not told to stop. -/
def IterCall (P : Program) (g : FuncId) (caps : List AV) (valid full : List (List AV) → Prop) : Prop :=
  enters P g = true ∧ ∀ (l : Nat) (w : World) (M : Blocks) (ys : Array Value) (J : JT), (∀ b, M b → b < w.heap.size) → EnvM P w M → ArgsAre noNames w M caps ys → Stab J →
    (∀ pre x vals X W, J pre false X W → valid (pre ++ [x]) → FlatAre x vals → (∀ b, X b → w.heap.size ≤ b ∧ b < W.heap.size) → YieldAt Fence.wide 0 P l vals W fun e W' =>
      ∃ stop, e = .returned (.bool (!stop)) ∧ J (pre ++ [x]) stop X W' ∧ KeepW (fun b => X b ∨ M b) W W') →
    J [] false (fun _ => False) w →
    Calls P g (#[.func (.yield l) #[] #[]] ++ ys) w fun e w' => (∃ v, e = .returned v) ∧ ∃ pre stop X, (stop = false → full pre) ∧ J pre stop X w' ∧ ∀ b, X b → w.heap.size ≤ b ∧ b < w'.heap.size

def KI (P : Program) (l : Nat) (valid : List (List AV) → Prop) (n : Nat) (M : Blocks) (J : JT) : Ctx :=
  ⟨none, some l, valid, fun _ => none, fun log stop C => J log stop C.own C.w ∧ C.M = M ∧ (∀ b, C.own b → n ≤ b ∧ b < C.w.heap.size) ∧ (C.no = fun _ => False) ∧ n ≤ C.w.heap.size ∧ EnvOK P C, [], fun _ _ => none⟩

def stI (n l : Nat) (caps : List AV) (valid : List (List AV) → Prop) : ASt :=
  ⟨n, argS (.func (.yield l) 0 (fun _ => .nilS) 0 (fun _ => .nilS) :: caps) 0, fun _ => none, [], ⟨some l, valid, [], false, fun _ => none, false, []⟩⟩

def finI (T : Tab) (rs : List ResultVar) (full : List (List AV) → Prop) : APost := fun e st =>
  match e with
  | .normal => finK T rs st fun _ => st.x.stop = false → full st.x.log
  | .ret => finK T rs st fun _ => st.x.stop = false → full st.x.log
  | _ => False

section
variable {P : Program} {K : Ctx} {C : Came} {φ φ' : Names} {M M' : Blocks} {H : Heap} {w w' : World} {T : Tab} {st : ASt} {a : Act}

theorem KI_ok {l n : Nat} {valid : List (List AV) → Prop} {J : JT} (hst : Stab J)
    (hy : ∀ pre x vals X W, J pre false X W → valid (pre ++ [x]) → FlatAre x vals → (∀ b, X b → n ≤ b ∧ b < W.heap.size) → YieldAt Fence.wide 0 P l vals W fun e W' =>
      ∃ stop, e = .returned (.bool (!stop)) ∧ J (pre ++ [x]) stop X W' ∧ KeepW (fun b => X b ∨ M b) W W') : (KI P l valid n M J).ok P := by
  refine ⟨fun _ _ _ h => h.2.2.2.2.2, ?_⟩
  intro l' hl pre x vals C φ Mi H U W hΓ hm hval hfl
  have hl : some l = some l' := hl
  obtain rfl := Option.some.inj hl
  obtain ⟨hJ, hM, hlt, hno, hnl, henv⟩ := hΓ
  let X' : Blocks := fun b => C.own b ∨ (C.w.heap.size ≤ b ∧ b < W.heap.size)
  have hX : ∀ b, X' b → n ≤ b ∧ b < W.heap.size := by
    rintro b (h | h)
    · exact ⟨(hlt b h).1, Nat.lt_of_lt_of_le (hlt b h).2 hm.size⟩
    · exact ⟨Nat.le_trans hnl h.1, h.2⟩
  have hJ1 : J pre false X' W := hst _ _ _ _ W hJ ⟨hm.os, hm.tape, hm.output, hm.size, fun b hb => hm.frame b hb.1 hb.2, hm.sizes⟩
  obtain ⟨fn, tmps, assign, body, hyr, hr⟩ := hy pre x vals X' W hJ1 hval hfl hX
  refine ⟨fn, tmps, assign, body, hyr, hr.mono fun e W' hq => ?_⟩
  obtain ⟨stop, he, hJ', hk⟩ := hq
  have hMi : ∀ b, Mi b → X' b ∨ M b := fun b hb => by
    rcases hm.reads b hb with h | h | h
    · rw [hM] at h; exact .inr h
    · exact .inl (.inl h)
    · exact .inl (.inr ⟨h, hm.heap.mlt b hb⟩)
  have hfr : ∀ id o b, H id = some o → φ id o.gen = some b → b < W.heap.size → X' b := fun id o b h1 h2 h3 => by
    rcases hm.fresh id o b h1 h2 with h | h
    · exact .inl h
    · exact .inr ⟨h, h3⟩
  have hXn : ∀ b, X' b → n ≤ b ∧ b < W'.heap.size := fun b hb => ⟨(hX b hb).1, Nat.lt_of_lt_of_le (hX b hb).2 hk.size⟩
  have henv' : EnvOK P ⟨W', X', M, fun _ => False⟩ := by
    have h1 := henv.at hm
    refine ⟨fun g hg => ?_, fun g hg => ?_⟩
    · obtain ⟨k1, k2, _⟩ := h1 g hg
      obtain ⟨q1, _, _⟩ := henv.1 g hg
      have q1 : M g := by rw [hM] at q1; exact q1
      exact ((h1.go (M' := fun b => Mi b) (fun _ h => h) (fun b hb _ => hk.same b (hMi b hb)) hk.size) g hg).imp (fun _ => q1) id
    · obtain ⟨q1, q2, _⟩ := henv.1 g hg
      exact fun hx => hx.elim (henv.2 g hg) (fun h => absurd q2 (Nat.not_lt.mpr h.1))
  refine ⟨stop, ⟨W', X', M, fun _ => False⟩, he, ⟨hJ', rfl, hXn, rfl, Nat.le_trans hnl (Nat.le_trans hm.size hk.size), henv'⟩, ?_, fun b hb => hk.same b (hMi b hb), hk.sizes, fun b hb hlt => hb.elim .inl (fun h => .inr ⟨h, hlt⟩)⟩
  exact { heap :=
            { own := fun id o ho => by
                rcases hm.heap.own id o ho with h0 | ⟨b, arr, fz, g1, g2, g3, g4, g5, g6, g7⟩
                · exact .inl ⟨h0.1, ObjAt.or h0.2 (fun h => h) (fun _ h => h) (fun b hb hlt _ => hk.same b (.inl (hfr id o b ho hb hlt))) (fun _ _ _ h => h) (fun _ _ hx => hx.mono (fun _ _ _ h => h) (fun _ h => h) (fun b hb => hk.same b (hMi b hb)) hk.sizes)⟩
                · refine .inr ⟨b, arr, fz, g1, ?_, g3, g4, g5, g6, fun i j hi hj => (g7 i j hi hj).mono (fun _ _ _ h => h) (fun _ h => h) (fun b hb => hk.same b (hMi b hb)) hk.sizes⟩
                  rw [hk.same b (.inl (hfr id o b ho g1 (Array.getElem?_eq_some_iff.mp g2).1))]
                  exact g2
              inj := hm.heap.inj
              last := hm.heap.last
              mlt := fun b hb => Nat.lt_of_lt_of_le (hm.heap.mlt b hb) hk.size }
          used := hm.used
          dom := hm.dom
          os := rfl
          tape := rfl
          output := rfl
          size := Nat.le_refl _
          frame := fun _ _ _ => rfl
          fresh := fun id o b h1 h2 => .inl (hfr id o b h1 h2 (hm.nlt _ _ _ h2).1)
          reads := fun b hb => (hMi b hb).elim (fun h => .inr (.inl h)) .inl
          keeps := fun b hb => hm.keeps b (by rw [hM]; exact hb)
          sizes := fun _ => Nat.le_refl _
          nlt := fun i g b hb => ⟨Nat.lt_of_lt_of_le (hm.nlt i g b hb).1 hk.size, fun h => h⟩
          far := ⟨fun _ _ h => h, fun _ h => h.elim⟩ }

theorem IterCall.body {g : FuncId} {fn : Func} {c : Code} {caps : List AV} {valid full : List (List AV) → Prop} (hT : T.ok P = true) (hen : enters P g = true) (hf : P.funcs[g]? = some fn) (hb : fn.body = some c) {n : Nat} (hn : fn.ntmps = n)
    {rs : List ResultVar} (hrs : fn.results.toList = rs) (h : ∀ l, AWP P c (finI T rs full) (stI n l caps valid)) : IterCall P g caps valid full := by
  refine ⟨hen, fun l w M ys J hM henv ha hst hy h0 => ?_⟩
  refine calls_body hf hb ?_
  have hgood : Good (KI P l valid w.heap.size M J) noNames M (stI n l caps valid) { tmps := (#[Value.func (.yield l) #[] #[]] ++ ys) ++ Array.replicate (n - (#[Value.func (.yield l) #[] #[]] ++ ys).size) undef, defers := [] } w :=
    { slots := fun t v ht => by
        obtain ⟨h1, h2, h3⟩ := argS_get _ _ _ _ ht
        have hlt : t < caps.length + 1 := by simpa using h2
        cases t with
        | zero =>
          refine ⟨Value.func (.yield l) #[] #[], by simp [Array.getElem?_append], ?_⟩
          rw [← h3]
          exact .func _ _ _ _ _ _ _ rfl rfl (fun i hi => absurd hi (by simp)) (fun i hi => absurd hi (by simp))
        | succ t =>
          refine ⟨ys.getD t undef, ?_, by rw [← h3]; exact ha.2 t (by omega)⟩
          have : t < ys.size := by rw [ha.1]; omega
          simp [Array.getElem?_append, this, Array.getD_eq_getD_getElem?, Nat.add_comm 1]
      gslots := fun t v ht => (by cases ht)
      nms := fun _ _ _ h => (by cases h)
      mem := ⟨⟨w, fun _ => False, M, fun _ => False⟩, ⟨h0, rfl, fun b hb => hb.elim, rfl, Nat.le_refl _, henv.ok (fun _ _ h => h)⟩,
        { heap := { own := fun id o h => (by simp [stI] at h), inj := fun _ _ _ _ _ h => (by simp [stI] at h), last := fun _ _ _ _ h => (by simp [stI] at h), mlt := hM }, used := fun _ _ _ h => (by simp [noNames] at h), dom := fun _ _ h => (by simp [stI] at h),
          os := rfl, tape := rfl, output := rfl, size := Nat.le_refl _, frame := fun _ _ _ => rfl, fresh := fun _ _ _ h => (by simp [stI] at h), reads := fun _ h => .inl h, keeps := fun _ h => h, sizes := fun _ => Nat.le_refl _,
          nlt := fun _ _ _ h => (by simp [noNames] at h), far := ⟨fun _ _ h => h, fun _ h => h.elim⟩ }, [], rfl, List.nodup_nil, fun d hd => (by cases hd)⟩
      wide := (by simp [stI]; omega), yl := rfl, valid := rfl, inr := fun h => (by cases h), rdd := fun _ => rfl }
  rw [hn]
  refine wpIn_mono (h l _ _ _ _ _ (KI_ok hst hy) hgood) fun e a w' hq => ?_
  obtain ⟨st, φ, M', hg, hq⟩ := hq
  have fin : (finK T rs st fun _ => st.x.stop = false → full st.x.log) → LeavesInM (fen none) 0 P fn a.tmps (fun e w' => (∃ v, e = .returned v) ∧ ∃ pre stop X, (stop = false → full pre) ∧ J pre stop X w' ∧ ∀ b, X b → w.heap.size ≤ b ∧ b < w'.heap.size) a.defers .returning w' := by
    intro hk
    refine leave_marks a.defers w' a rfl hg fun w2 hg2 => ?_
    obtain ⟨l', ys', hfull, h1, h2, h3, h4⟩ := finK_sound hT hg2 _ _ hk
    obtain ⟨x, hx, hr⟩ := results_of hrs h1 h2 h3 h4
    obtain ⟨C, hΓ, hm, _⟩ := hg2.mem
    obtain ⟨hJ, hCM, hlt, hno, hnl, _⟩ := hΓ
    refine ⟨x, hx, ⟨_, rfl⟩, st.x.log, st.x.stop, _, hfull, hst _ _ _ _ w2 hJ ⟨hm.os, hm.tape, hm.output, hm.size, fun b hb => hm.frame b hb.1 hb.2, hm.sizes⟩, ?_⟩
    rintro b (h | h)
    · exact ⟨(hlt b h).1, Nat.lt_of_lt_of_le (hlt b h).2 hm.size⟩
    · exact ⟨Nat.le_trans hnl h.1, h.2⟩
  cases e with
  | normal => exact fin hq
  | ret => exact fin hq
  | panic ch => obtain ⟨v, x, _, _, h⟩ := hq; exact h.elim
  | exit i => exact hq.elim
  | goto l => exact hq.elim
  | outgrown => exact hq.elim

theorem IterCall.run {g : FuncId} {fn : Func} {c : Code} {caps : List AV} {valid full : List (List AV) → Prop} (hT : T.ok P = true) (hmix : P.follows .mixedOrders = true) (hen : enters P g = true) (hf : P.funcs[g]? = some fn) (hb : fn.body = some c) {n : Nat} (hn : fn.ntmps = n)
    {rs : List ResultVar} (hrs : fn.results.toList = rs) (h : ∀ l, ex P T c (finI T rs full) (stI n l caps valid)) : IterCall P g caps valid full :=
  IterCall.body hT hen hf hb hn hrs fun l => ex_sound hT hmix _ _ _ (h l)

end
end Go.AM

namespace Go.AM
open Go Go.RowKit

/-- Between two rounds of the loop l: X are the iterator's blocks. -/
structure LoopS (C : Came) (φ : Names) (M Mc X : Blocks) (l : Nat) (st : ASt) (tm : Array Value) (df : List Deferred) (W : World) : Prop where
  slots : ∀ t v, st.slots t = some v → ∃ x, tm[t]? = some x ∧ Ra φ W M v x
  mem : Mem C φ M st.heap st.used W
  marks : ∀ d ∈ df, ∃ D, d = { target := .collected D, args := #[] } ∧ M D ∧ W.heap[D]? = some (.deferred (some [])) ∧ (C.own D ∨ C.w.heap.size ≤ D)
  noM : ∀ b, M b → ¬ X b ∧ b ≠ l
  noN : ∀ i g b, φ i g = some b → ¬ X b ∧ b ≠ l
  caps : ∀ b, Mc b → M b
  xlt : ∀ b, X b → l < b ∧ b < W.heap.size
  llt : C.w.heap.size ≤ l
  lin : l < W.heap.size

def others (C : Came) (X : Blocks) (l : Nat) : Blocks := fun b => C.no b ∨ X b ∨ b = l

section
variable {P : Program} {K : Ctx} {C : Came} {φ φ' : Names} {M M' Mc X N : Blocks} {H H' : Heap} {U U' : List Nat} {w w' : World} {T : Tab} {st st' : ASt} {l : Nat} {tm : Array Value} {df : List Deferred}

theorem Mem.row_lt (hm : Mem C φ M H U w) {id : Nat} {o : AO} {b : Nat} (_h1 : H id = some o) (h2 : φ id o.gen = some b) : b < w.heap.size := (hm.nlt _ _ _ h2).1

theorem Mem.self (hm : Mem C φ M H U w) (h1 : ∀ b, M b → ¬ N b) (h2 : ∀ i g b, φ i g = some b → ¬ N b) (h3 : ∀ b, N b → b < w.heap.size) : Mem ⟨w, ownOf φ H, M, N⟩ φ M H U w where
  heap := hm.heap
  used := hm.used
  dom := hm.dom
  os := rfl
  tape := rfl
  output := rfl
  size := Nat.le_refl _
  frame := fun _ _ _ => rfl
  fresh := fun id o _ h1 h2 => .inl ⟨id, o, h1, h2⟩
  reads := fun _ h => .inl h
  keeps := fun _ h => h
  sizes := fun _ => Nat.le_refl _
  nlt := fun i g b h => ⟨(hm.nlt i g b h).1, h2 i g b h⟩
  far := ⟨h1, h3⟩

theorem Mem.comp (hm : Mem C φ M H U w) (h2 : Mem ⟨w, ownOf φ H, M, N⟩ φ' M' H' U' w') (hN : ∀ b, C.no b → N b) : Mem C φ' M' H' U' w' where
  heap := h2.heap
  used := h2.used
  dom := h2.dom
  os := h2.os.trans hm.os
  tape := h2.tape.trans hm.tape
  output := h2.output.trans hm.output
  size := Nat.le_trans hm.size h2.size
  frame := fun b hb ho => by
    refine (h2.frame b (Nat.lt_of_lt_of_le hb hm.size) ?_).trans (hm.frame b hb ho)
    rintro ⟨id, o, k1, k2⟩
    rcases hm.fresh _ _ _ k1 k2 with h | h
    · exact ho h
    · omega
  fresh := fun id o b k1 k2 => by
    rcases h2.fresh _ _ _ k1 k2 with ⟨i2, o2, q1, q2⟩ | h
    · exact hm.fresh _ _ _ q1 q2
    · exact .inr (Nat.le_trans hm.size h)
  reads := fun b hb => by
    rcases h2.reads b hb with h | ⟨i2, o2, q1, q2⟩ | h
    · exact hm.reads b h
    · exact .inr (hm.fresh _ _ _ q1 q2)
    · exact .inr (.inr (Nat.le_trans hm.size h))
  keeps := fun b hb => h2.keeps b (hm.keeps b hb)
  sizes := fun b => Nat.le_trans (hm.sizes b) (h2.sizes b)
  nlt := fun i g b h => ⟨(h2.nlt i g b h).1, fun hn => (h2.nlt i g b h).2 (hN b hn)⟩
  far := ⟨fun b hb hn => h2.far.1 b hb (hN b hn), hm.far.2⟩

theorem Mem.drift (hm : Mem C φ M H U w) (hk : KeepW (fun b => b < w.heap.size ∧ ¬ X b) w w') (h1 : ∀ b, M b → ¬ X b) (h2 : ∀ i g b, φ i g = some b → ¬ X b) (h3 : ∀ b, X b → C.w.heap.size ≤ b) : Mem C φ M H U w' where
  heap :=
    { own := fun id o ho => by
        rcases hm.heap.own id o ho with h0 | ⟨b, arr, fz, g1, g2, g3, g4, g5, g6, g7⟩
        · exact .inl ⟨h0.1, ObjAt.or h0.2 (fun h => h) (fun _ h => h) (fun b hb hlt _ => hk.same b ⟨hlt, h2 _ _ _ hb⟩) (fun _ _ _ h => h) (fun _ _ hx => hx.mono (fun _ _ _ h => h) (fun _ h => h) (fun b hb => hk.same b ⟨hm.heap.mlt b hb, h1 b hb⟩) hk.sizes)⟩
        · refine .inr ⟨b, arr, fz, g1, ?_, g3, g4, g5, g6, fun i j hi hj => (g7 i j hi hj).mono (fun _ _ _ h => h) (fun _ h => h) (fun b hb => hk.same b ⟨hm.heap.mlt b hb, h1 b hb⟩) hk.sizes⟩
          rw [hk.same b ⟨(hm.nlt _ _ _ g1).1, h2 _ _ _ g1⟩]
          exact g2
      inj := hm.heap.inj
      last := hm.heap.last
      mlt := fun b hb => Nat.lt_of_lt_of_le (hm.heap.mlt b hb) hk.size }
  used := hm.used
  dom := hm.dom
  os := hk.os.trans hm.os
  tape := hk.tape.trans hm.tape
  output := hk.output.trans hm.output
  size := Nat.le_trans hm.size hk.size
  frame := fun b hb ho => (hk.same b ⟨Nat.lt_of_lt_of_le hb hm.size, fun hx => absurd (h3 b hx) (Nat.not_le.mpr hb)⟩).trans (hm.frame b hb ho)
  fresh := hm.fresh
  reads := hm.reads
  keeps := hm.keeps
  sizes := fun b => Nat.le_trans (hm.sizes b) (hk.sizes b)
  nlt := fun i g b h => ⟨Nat.lt_of_lt_of_le (hm.nlt i g b h).1 hk.size, (hm.nlt i g b h).2⟩
  far := hm.far

theorem LoopS.drift (h : LoopS C φ M Mc X l st tm df w) (hk : KeepW (fun b => b < w.heap.size ∧ ¬ X b) w w') : LoopS C φ M Mc (fun b => X b ∨ (w.heap.size ≤ b ∧ b < w'.heap.size)) l st tm df w' where
  slots := fun t v ht => by
    obtain ⟨x, hx, hr⟩ := h.slots t v ht
    exact ⟨x, hx, hr.mono (fun _ _ _ h => h) (fun _ h => h) (fun b hb => hk.same b ⟨h.mem.heap.mlt b hb, (h.noM b hb).1⟩) hk.sizes⟩
  mem := h.mem.drift hk (fun b hb => (h.noM b hb).1) (fun i g b hb => (h.noN i g b hb).1) (fun b hb => Nat.le_of_lt (Nat.lt_of_le_of_lt h.llt (h.xlt b hb).1))
  marks := fun d hd => by
    obtain ⟨D, d1, d2, d3, d4⟩ := h.marks d hd
    exact ⟨D, d1, d2, by rw [hk.same D ⟨h.mem.heap.mlt D d2, (h.noM D d2).1⟩]; exact d3, d4⟩
  noM := fun b hb => ⟨fun hx => hx.elim (h.noM b hb).1 (fun hn => by have := h.mem.heap.mlt b hb; omega), (h.noM b hb).2⟩
  noN := fun i g b hb => ⟨fun hx => hx.elim (h.noN i g b hb).1 (fun hn => by have := (h.mem.nlt i g b hb).1; omega), (h.noN i g b hb).2⟩
  caps := h.caps
  xlt := fun b hb => hb.elim (fun hx => ⟨(h.xlt b hx).1, Nat.lt_of_lt_of_le (h.xlt b hx).2 hk.size⟩) (fun hn => ⟨Nat.lt_of_lt_of_le h.lin hn.1, hn.2⟩)
  llt := h.llt
  lin := Nat.lt_of_lt_of_le h.lin hk.size

theorem putObj_size {w : World} {l : Nat} {o : Obj} : (w.putObj l o).heap.size = w.heap.size := by simp [World.putObj]

/-- The loop's record is turned. -/
theorem LoopS.turn (h : LoopS C φ M Mc X l st tm df w) {o o' : Obj} (ho : w.heap[l]? = some o) (h1 : o.keeps = false) (h2 : o'.isCells = false) : LoopS C φ M Mc X l st tm df (w.putObj l o') where
  slots := fun t v ht => by
    obtain ⟨x, hx, hr⟩ := h.slots t v ht
    exact ⟨x, hx, hr.cells (turn_cells ho h1) (bsize_turn ho (by cases o <;> simp_all [Obj.isCells, Obj.keeps]) h2)⟩
  mem := h.mem.cells (turn_cells ho h1) (bsize_turn ho (by cases o <;> simp_all [Obj.isCells, Obj.keeps]) h2) rfl rfl rfl (Nat.le_of_eq putObj_size.symm) (fun b hb _ => World.putObj_heap_other (fun e => by have := h.llt; omega))
  marks := fun d hd => by
    obtain ⟨D, d1, d2, d3, d4⟩ := h.marks d hd
    exact ⟨D, d1, d2, by rw [World.putObj_heap_other (h.noM D d2).2]; exact d3, d4⟩
  noM := h.noM
  noN := h.noN
  caps := h.caps
  xlt := fun b hb => by rw [putObj_size]; exact h.xlt b hb
  llt := h.llt
  lin := by rw [putObj_size]; exact h.lin

theorem LoopS.self (h : LoopS C φ M Mc X l st tm df w) : Mem ⟨w, ownOf φ st.heap, M, others C X l⟩ φ M st.heap st.used w :=
  h.mem.self (fun b hb hn => by
      rcases hn with hn | hn | hn
      · exact h.mem.far.1 b hb hn
      · exact (h.noM b hb).1 hn
      · exact (h.noM b hb).2 hn)
    (fun i g b hb hn => by
      rcases hn with hn | hn | hn
      · exact (h.mem.nlt i g b hb).2 hn
      · exact (h.noN i g b hb).1 hn
      · exact (h.noN i g b hb).2 hn)
    (fun b hn => by
      rcases hn with hn | hn | rfl
      · exact Nat.lt_of_lt_of_le (h.mem.far.2 b hn) h.mem.size
      · exact (h.xlt b hn).2
      · exact h.lin)

/-- Code has run that left the others alone. -/
theorem LoopS.after (h : LoopS C φ M Mc X l st tm df w) (hm : Mem ⟨w, ownOf φ st.heap, M, others C X l⟩ φ' M' st'.heap st'.used w') (hs : ∀ t v, st'.slots t = some v → ∃ x, tm[t]? = some x ∧ Ra φ' w' M' v x) :
    LoopS C φ' M' Mc X l st' tm df w' ∧ KeepW (fun b => X b ∨ M b ∨ b = l) w w' := by
  have hno : ∀ b, (X b ∨ M b ∨ b = l) → b < w.heap.size ∧ ¬ ownOf φ st.heap b := by
    rintro b (hb | hb | rfl)
    · exact ⟨(h.xlt b hb).2, fun ⟨id, o, _, k2⟩ => (h.noN _ _ _ k2).1 hb⟩
    · exact ⟨h.mem.heap.mlt b hb, h.mem.notown hb⟩
    · exact ⟨h.lin, fun ⟨id, o, _, k2⟩ => (h.noN _ _ _ k2).2 rfl⟩
  have hk : KeepW (fun b => X b ∨ M b ∨ b = l) w w' := ⟨hm.os, hm.tape, hm.output, hm.size, fun b hb => hm.frame b (hno b hb).1 (hno b hb).2, hm.sizes⟩
  refine ⟨{ slots := hs, mem := h.mem.comp hm (fun b hb => .inl hb), marks := fun d hd => ?_, noM := fun b hb => ?_, noN := fun i g b hb => ?_, caps := fun b hb => hm.keeps b (h.caps b hb), xlt := fun b hb => ⟨(h.xlt b hb).1, Nat.lt_of_lt_of_le (h.xlt b hb).2 hm.size⟩, llt := h.llt, lin := Nat.lt_of_lt_of_le h.lin hm.size }, hk⟩
  · obtain ⟨D, d1, d2, d3, d4⟩ := h.marks d hd
    exact ⟨D, d1, hm.keeps D d2, by rw [hk.same D (.inr (.inl d2))]; exact d3, d4⟩
  · have := hm.far.1 b hb
    exact ⟨fun hx => this (.inr (.inl hx)), fun hx => this (.inr (.inr hx))⟩
  · have := (hm.nlt i g b hb).2
    exact ⟨fun hx => this (.inr (.inl hx)), fun hx => this (.inr (.inr hx))⟩

end
end Go.AM

namespace Go.AM
open Go Go.RowKit

def setPs : List Nat → List AV → (Nat → Option AV) → (Nat → Option AV)
  | p :: ps, v :: vs, s => setPs ps vs (updF s p v)
  | _, _, s => s

/-- A round begins. -/
def roundSt (st : ASt) (ps : List Nat) (x : List AV) : ASt := ⟨st.nt, setPs ps x st.slots, st.heap, st.used, ⟨none, fun _ => True, [], false, st.slots, true, []⟩⟩
/-- The loop's own variables behind a round. -/
def behind (nt : Nat) (s : ASt) : ASt := ⟨nt, s.x.gs, s.heap, s.used, X0⟩
def roundQ (nt : Nat) (In : Prop) (Sn : ASt) (Q : APost) : APost := fun e s =>
  match e with
  | .normal => In ∧ SubS (behind nt s) Sn
  | .ret => Q .ret (behind nt s)
  | .exit i => Q (.exit i) (behind nt s)
  | .panic _ => False

section
variable {P : Program} {K : Ctx} {C : Came} {φ φ' : Names} {M M' Mc X N : Blocks} {H H' : Heap} {U U' : List Nat} {w w' : World} {T : Tab} {st st' : ASt} {l : Nat} {tm : Array Value} {df : List Deferred}

def foldPs (ps : List Nat) (vals : List Value) (tm : Array Value) : Array Value := (ps.zip vals).foldl (fun tm q => tm.setIfInBounds q.1 q.2) tm

theorem foldPs_size : ∀ (ps : List Nat) (vals : List Value) (tm : Array Value), (foldPs ps vals tm).size = tm.size := by
  intro ps
  induction ps with
  | nil => intro vals tm; rfl
  | cons p ps ih =>
    intro vals tm
    cases vals with
    | nil => rfl
    | cons v vals =>
      have := ih vals (tm.setIfInBounds p v)
      simpa [foldPs] using this

theorem setPs_good : ∀ (ps : List Nat) (x : List AV) (vals : List Value) (s : Nat → Option AV) (tm : Array Value), x.length = vals.length → (∀ i, i < x.length → Ra φ w M (getL x i) (vals.getD i undef)) → (∀ p ∈ ps, p < tm.size) →
    (∀ t v, s t = some v → ∃ y, tm[t]? = some y ∧ Ra φ w M v y) → ∀ t v, setPs ps x s t = some v → ∃ y, (foldPs ps vals tm)[t]? = some y ∧ Ra φ w M v y := by
  intro ps
  induction ps with
  | nil => intro x vals s tm _ _ _ hs t v ht; exact hs t v ht
  | cons p ps ih =>
    intro x vals s tm hl hr hp hs t v ht
    cases x with
    | nil =>
      cases vals with
      | nil => exact hs t v ht
      | cons _ _ => simp at hl
    | cons u x =>
      cases vals with
      | nil => simp at hl
      | cons q vals =>
        have := ih x vals (updF s p u) (tm.setIfInBounds p q) (by simpa using hl) (fun i hi => by simpa [getL] using hr (i + 1) (by simpa using hi)) (fun r hr' => by simpa using hp r (List.mem_cons_of_mem _ hr')) (fun t' v' ht' => by
          by_cases he : t' = p
          · subst he
            rw [updF_same] at ht'
            obtain rfl := Option.some.inj ht'
            refine ⟨q, ?_, by simpa [getL] using hr 0 (by simp)⟩
            rw [Array.getElem?_setIfInBounds]
            simp [hp t' (List.mem_cons_self ..)]
          · rw [updF_ne _ _ he] at ht'
            obtain ⟨y, hy, hry⟩ := hs t' v' ht'
            exact ⟨y, by rw [Array.getElem?_setIfInBounds, if_neg (fun e => he e.symm)]; exact hy, hry⟩) t v ht
        simpa [foldPs] using this

def KR (l : Nat) (tm : Array Value) (C : Came) : Ctx := ⟨some l, none, fun _ => True, fun t => tm[t]?, fun _ _ C' => C' = C, [], fun _ _ => none⟩

theorem awp_range {Q : APost} {g : Operand} {ps : Array Tmp} {assign body : Code} {S : List (List AV) → ASt} {gf nc : Nat} {f0 caps : Nat → AV} {caps' : List AV} {valid full : List (List AV) → Prop} (I : List (List AV) → Prop) (hI : I [])
    (hx : ∀ pre, (S pre).x = X0) (hnt : ∀ pre, (S pre).nt = (S []).nt) (hgv : evalO (S []).slots g = some (.func (.func gf) 0 f0 nc caps)) (hcl : caps'.length = nc) (hcaps : ∀ i, i < nc → VLe (S []).heap [] [] (caps i) (getL caps' i))
    (hps : ∀ p ∈ ps.toList, p < (S []).nt) (hlen : ∀ pre x, valid (pre ++ [x]) → x.length = ps.size) (hit : IterCall P gf caps' valid full)
    (hround : ∀ pre x, I pre → valid (pre ++ [x]) → AWP P assign (seqQ (AWP P body (roundQ (S []).nt (I (pre ++ [x])) (S (pre ++ [x])) Q)) (fun _ _ => False)) (roundSt (S pre) ps.toList x))
    (hdone : ∀ xs, I xs → full xs → Q .normal (S xs)) : AWP P (.rangeFunc g ps assign body) Q (S []) := by
  intro K φ M a w hK hg
  have hrd : K.rd = none := by
    have := hg.inr
    rw [hx []] at this
    cases hr : K.rd with
    | none => rfl
    | some r => rw [hr] at this; have := this rfl; cases this
  obtain ⟨C, hΓ, hm, msd, hmsd, hnd, hdf⟩ := hg.mem
  rw [hx []] at hΓ
  obtain ⟨hen, hcall⟩ := hit
  have hfv := evalO_sound hg.slots hgv
  generalize hF : a.eval g = G at hfv
  cases hfv with
  | func _ _ _ _ _ xs ys hxs hys _ hcap =>
  have hx0 : xs = #[] := by simpa using hxs
  subst hx0
  refine wpIn_rangeFunc fun fn hfn => ?_
  rw [show (fen K.rd).round = none from hrd]
  obtain ⟨rec, hrec⟩ : ∃ rec : LoopState → Option Code → Loop, rec = fun st pe => { state := st, pending := pe, fn, tmps := a.tmps, params := ps, assign, body, defers := w.heap.size } := ⟨_, rfl⟩
  obtain ⟨W1, hW1⟩ : ∃ W1, (w.alloc (.deferred (some []))).alloc (.loop (rec .ready none)) = W1 := ⟨_, rfl⟩
  have hsz1 : W1.heap.size = w.heap.size + 2 := by rw [← hW1]; simp
  have hL1 : W1.heap[w.heap.size + 1]? = some (.loop (rec .ready none)) := by
    rw [← hW1]; have := World.alloc_heap_new (w.alloc (.deferred (some []))) (.loop (rec .ready none)); rwa [World.size_alloc] at this
  have hD1 : W1.heap[w.heap.size]? = some (.deferred (some [])) := by
    rw [← hW1]; exact (Below.heap_alloc _ _ _ (by simp)).trans (World.alloc_heap_new w _)
  have hold : ∀ b, b < w.heap.size → W1.heap[b]? = w.heap[b]? := fun b hb => by
    rw [← hW1]; exact (Below.heap_alloc _ _ _ (by simp; omega)).trans (Below.heap_alloc _ _ _ hb)
  have hk1 : KeepW (fun b => b < w.heap.size ∧ ¬ (fun _ => False) b) w W1 := ⟨by rw [← hW1]; rfl, by rw [← hW1]; rfl, by rw [← hW1]; rfl, by omega, fun b hb => hold b hb.1, bsize_old hold⟩
  have hm1 : Mem C φ M (S []).heap (S []).used W1 := hm.drift hk1 (fun _ _ h => h) (fun _ _ _ _ h => h) (fun _ h => h.elim)
  let M1 : Blocks := fun b => M b ∨ b = w.heap.size
  have hup : ∀ {v : AV} {x : Value}, Ra φ w M v x → Ra φ W1 M1 v x := fun h => h.mono (fun _ _ _ h => h) (fun _ h => .inl h) (fun b hb => hold b (hm.heap.mlt b hb)) hk1.sizes
  have hup1 : ∀ {v : AV} {x : Value}, Ra φ W1 M v x → Ra φ W1 M1 v x := fun h => h.mono (fun _ _ _ h => h) (fun _ h => .inl h) (fun b hb => rfl) (fun _ => Nat.le_refl _)
  let mark : Deferred := { target := .collected w.heap.size, args := #[] }
  let a2 : Act := { a with defers := mark :: a.defers }
  have hmD : Mem C φ M1 (S []).heap (S []).used W1 :=
    { heap := { own := fun id o ho => by
                  rcases hm1.heap.own id o ho with h0 | ⟨b, arr, fz, g1, g2, g3, g4, g5, g6, g7⟩
                  · exact .inl ⟨h0.1, ObjAt.or h0.2 (fun h => h) (fun _ h => h) (fun _ _ _ _ => rfl) (fun b hb _ hM h => h.elim hM (fun e => by have := (hm.nlt _ _ _ hb).1; omega)) (fun _ _ hx => hup1 hx)⟩
                  · exact .inr ⟨b, arr, fz, g1, g2, g3, g4, fun h => h.elim g5 (fun e => by have := (hm.nlt _ _ _ g1).1; omega), g6, fun i j hi hj => hup1 (g7 i j hi hj)⟩
                inj := hm1.heap.inj, last := hm1.heap.last, mlt := fun b hb => hb.elim (hm1.heap.mlt b) (fun e => by omega) }
      used := hm1.used, dom := hm1.dom, os := hm1.os, tape := hm1.tape, output := hm1.output, size := hm1.size, frame := hm1.frame, fresh := hm1.fresh
      reads := fun b hb => hb.elim (hm1.reads b) (fun e => .inr (.inr (by have := hm.size; omega))), keeps := fun b hb => .inl (hm1.keeps b hb), sizes := hm1.sizes, nlt := hm1.nlt
      far := ⟨fun b hb => hb.elim (hm1.far.1 b) (fun e hn => by have := hm.far.2 b hn; have := hm.size; omega), hm1.far.2⟩ }
  have hL0 : LoopS C φ M1 M (fun _ => False) (w.heap.size + 1) (S []) a.tmps (mark :: msd) W1 :=
    { slots := fun t v ht => by obtain ⟨x, hx, hr⟩ := hg.slots t v ht; exact ⟨x, hx, hup hr⟩
      mem := hmD
      marks := fun d hd => by
        rcases List.mem_cons.mp hd with rfl | hd
        · exact ⟨w.heap.size, rfl, .inr rfl, hD1, .inr hm.size⟩
        · obtain ⟨D, d1, d2, d3, d4⟩ := hdf d hd
          exact ⟨D, d1, .inl d2, by rw [hold D (hm.heap.mlt D d2)]; exact d3, d4⟩
      noM := fun b hb => ⟨fun h => h, fun e => by rcases hb with hb | hb; (have := hm.heap.mlt b hb; omega); omega⟩
      noN := fun i g b hb => ⟨fun h => h, fun e => by have := (hm.nlt _ _ _ hb).1; omega⟩
      caps := fun b hb => .inl hb
      xlt := fun b h => h.elim
      llt := by have := hm.size; omega
      lin := by omega }
  have hnd2 : (mark :: msd).Nodup := by
    rw [List.nodup_cons]
    refine ⟨fun hmem => ?_, hnd⟩
    obtain ⟨D, d1, d2, _⟩ := hdf _ hmem
    have : mark.target = Target.collected D := by rw [d1]
    have hD : w.heap.size = D := by injection this
    have := hm.heap.mlt D d2
    omega
  let J : JT := fun pre stop X W => ∃ φ M1 st' pe, LoopS C φ M1 M X (w.heap.size + 1) st' a.tmps (mark :: msd) W ∧ st'.x = X0 ∧ st'.nt = (S []).nt ∧ W.heap[w.heap.size + 1]? = some (.loop (rec (if stop then .done else .ready) pe)) ∧
    (stop = false → pe = none ∧ st' = S pre ∧ I pre) ∧ (stop = true → (pe = some .ret ∧ Q .ret st') ∨ ∃ i, pe = some (.exit i) ∧ Q (.exit i) st')
  refine ⟨w.heap.size + 1, [mark], W1, { target := .fn (.func gf) ys, args := #[.func (.yield (w.heap.size + 1)) #[] #[]] }, W1, gf, #[.func (.yield (w.heap.size + 1)) #[] #[]] ++ ys, W1, ?_, ?_, fun _ _ => trivial, ?_, fun h => absurd h (by simp [fen, Fence.wide]), ?_⟩
  · rw [← hW1, hrec]; exact run_enterLoop_outer _ _ _ _ _
  · simp only [resolve, hF]
    simp [go_sem]
  · have := run_callFunc (P := P) W1 (args := #[.func (.yield (w.heap.size + 1)) #[] #[]] ++ ys) hen
    simp only [invoke]
    simpa using this
  have hst : Stab J := by
    rintro pre stop X W W' ⟨φ', M', st', pe, hl, h1, h2, h3, h4, h5⟩ hk
    exact ⟨φ', M', st', pe, hl.drift hk, h1, h2, by rw [hk.same _ ⟨hl.lin, fun hx => absurd (hl.xlt _ hx).1 (Nat.lt_irrefl _)⟩]; exact h3, h4, h5⟩
  have hargs : ArgsAre noNames W1 M caps' ys := by
    refine ⟨by rw [hcl]; exact hys, fun i hi => ?_⟩
    rw [hcl] at hi
    refine (hcaps i hi).sound (φ' := noNames) hm1 (fun i' j g b hu => by simp [lookL] at hu) (fun b h => h) (fun id o b hb => by simp [memN] at hb) ?_
    exact (hcap i hi).mono (fun _ _ _ h => h) (fun _ h => h) (fun b hb => hold b (hm.heap.mlt b hb)) hk1.sizes
  have henvC := hK.1 _ _ _ hΓ
  have hcall' := hcall (w.heap.size + 1) W1 M ys J hm1.heap.mlt (henvC.at hm1) hargs hst ?_ ⟨φ, M1, S [], none, hL0, hx [], rfl, hL1, fun _ => ⟨rfl, rfl, hI⟩, fun h => by cases h⟩
  · have hc : CallsIn (fen K.rd) (0 - 1) P gf (#[.func (.yield (w.heap.size + 1)) #[] #[]] ++ ys) W1 _ := callsIn_wide.mpr hcall'
    refine hc.mono ?_
    rintro e W2 ⟨⟨v, rfl⟩, pre, stop, X, hfull, ⟨φ', M', st', pe, hl, h1, h2, h3, h4, h5⟩, _⟩
    have hgood : ∀ (o : Obj), o.isCells = false → Good K φ' M' st' a2 (W2.putObj (w.heap.size + 1) o) := fun o ho => by
      have ht := hl.turn h3 rfl ho
      exact { slots := ht.slots, gslots := fun t v hv => (by rw [h1] at hv; cases hv), nms := fun i g b h => (by have := (hg.nms i g b h).2; rw [hx []] at this; cases this), mem := ⟨C, by rw [h1]; exact hΓ, ht.mem, mark :: msd, by show mark :: a.defers = _; rw [hmsd]; rfl, hnd2, ht.marks⟩, wide := by rw [h2]; exact hg.wide, yl := by rw [h1, ← hx []]; exact hg.yl, valid := by rw [h1, ← hx []]; exact hg.valid,
              inr := by rw [h1, ← hx []]; exact hg.inr, rdd := fun hr => (by rw [h1] at hr; cases hr) }
    have hend := run_endLoop (P := P) h3 (by rw [hrec]; cases stop <;> simp)
    rw [show (rec (if stop = true then .done else .ready) pe).pending = pe by rw [hrec]] at hend
    refine ⟨pe, _, hend, ?_⟩
    cases stop with
    | false =>
      obtain ⟨rfl, rfl, hIp⟩ := h4 rfl
      exact ⟨_, _, _, hgood _ rfl, hdone pre hIp (hfull rfl)⟩
    | true =>
      rcases h5 rfl with ⟨rfl, hq⟩ | ⟨i, rfl, hq⟩
      · exact wpIn_ret ⟨_, _, _, hgood _ rfl, hq⟩
      · exact wpIn_exit ⟨_, _, _, hgood _ rfl, hq⟩
  -- one round
  rintro pre x vals X W ⟨φ1, M2, st', pe, hl, h1, h2, h3, h4, _⟩ hval hfl _
  obtain ⟨rfl, rfl, hIp⟩ := h4 rfl
  have h3 : W.heap[w.heap.size + 1]? = some (.loop (rec .ready none)) := h3
  have hxl := hlen pre x hval
  have hy := run_yield (P := P) (args := vals) h3 (by rw [hrec]; simp only; rw [hfl.1, hxl])
  rw [hrec] at hy
  have hnts := hg.wide
  refine ⟨fn, _, assign, body, hy, roundIn_of_wpIn (F := Fence.wide) trivial ?_⟩
  have hfold : ((ps.zip vals).foldl (fun tmps (x : Tmp × Value) => tmps.setIfInBounds x.1 x.2) a.tmps) = foldPs ps.toList vals.toList a.tmps := by
    rw [foldPs, ← Array.toList_zip, Array.foldl_toList]
  have hg1 : Good (KR (w.heap.size + 1) a.tmps ⟨W, ownOf φ1 (S pre).heap, M2, others C X (w.heap.size + 1)⟩) φ1 M2 (roundSt (S pre) ps.toList x) { tmps := foldPs ps.toList vals.toList a.tmps, defers := [] } W :=
    { slots := setPs_good ps.toList x vals.toList (S pre).slots a.tmps (by simp [hfl.1]) (fun i hi => by have := hfl.2 i hi φ1 W M2; simpa [Array.getD_eq_getD_getElem?] using this) (fun p hp => Nat.lt_of_lt_of_le (hps p hp) hnts) hl.slots
      gslots := hl.slots
      nms := fun _ _ _ h => (by cases h)
      mem := ⟨_, rfl, hl.self, [], rfl, List.nodup_nil, fun d hd => (by cases hd)⟩
      wide := by rw [foldPs_size]; show (S pre).nt ≤ _; rw [hnt]; exact hnts
      yl := rfl, valid := rfl, inr := fun _ => rfl, rdd := fun _ => rfl }
  have hKR : ∀ (C' : Came), EnvOK P C' → (KR (w.heap.size + 1) a.tmps C').ok P := fun C' he => ⟨fun _ _ C h => by obtain rfl : C = _ := h; exact he, fun l h => by cases h⟩
  have hEnv : ∀ {φ' : Names} {M' : Blocks} {st' : ASt} {W : World} {N : Blocks}, Mem C φ' M' st'.heap st'.used W → EnvOK P ⟨W, ownOf φ' st'.heap, M', N⟩ := fun {φ' M' st' W N} hm' => (henvC.at hm').ok (fun b hb => hm'.notown hb)
  have hrun := hround pre x hIp hval _ _ _ _ _ (hKR _ (hEnv hl.mem)) hg1
  rw [← hfold] at hrun
  refine wpIn_mono (F := fen (some (w.heap.size + 1))) hrun ?_
  rintro e a1 W1' ⟨s1, φ2, M3, hgs, hqs⟩
  cases e with
  | exit i => exact hqs.elim
  | ret => exact hqs.elim
  | panic ch => obtain ⟨_, _, _, _, hf⟩ := hqs; exact hf.elim
  | goto t => exact hqs.elim
  | outgrown => exact hqs.elim
  | normal =>
    obtain ⟨C2, hC2, hms, _⟩ := hgs.mem
    have hC2 : C2 = ⟨W, ownOf φ1 (S pre).heap, M2, others C X (w.heap.size + 1)⟩ := hC2
    subst hC2
    obtain ⟨hl1, hk1'⟩ := hl.after (st' := ⟨s1.nt, fun _ => none, s1.heap, s1.used, X0⟩) hms (fun t v ht => by cases ht)
    have hr1 : W1'.heap[w.heap.size + 1]? = some (.loop (rec .ready none)) := (hk1'.same _ (.inr (.inr rfl))).trans h3
    have hbr := run_beginRound (P := P) hr1 (by rw [hrec])
    refine ⟨_, hbr, ?_⟩
    obtain ⟨busy, hbusy⟩ : ∃ busy : Loop, busy = { rec .ready none with state := .busy } := ⟨_, rfl⟩
    rw [← hbusy]
    have hl2 := hl1.turn hr1 rfl (o' := .loop busy) rfl
    have hin1 : s1.x.inR = true := hgs.inr rfl
    have hg3 : Good (KR (w.heap.size + 1) a.tmps ⟨W1'.putObj (w.heap.size + 1) (.loop busy), ownOf φ2 s1.heap, M3, others C X (w.heap.size + 1)⟩) φ2 M3 s1 a1 (W1'.putObj (w.heap.size + 1) (.loop busy)) :=
      { slots := fun t v ht => by obtain ⟨y, hy, hr⟩ := hgs.slots t v ht; exact ⟨y, hy, hr.cells (turn_cells hr1 rfl) (bsize_turn hr1 rfl rfl)⟩
        gslots := fun t v ht => by obtain ⟨y, hy, hr⟩ := hgs.gslots t v ht; exact ⟨y, hy, hr.cells (turn_cells hr1 rfl) (bsize_turn hr1 rfl rfl)⟩
        nms := fun _ _ _ h => (by cases h)
        mem := ⟨_, rfl, hl2.self, [], by rw [hgs.rdd hin1]; rfl, List.nodup_nil, fun d hd => (by cases hd)⟩
        wide := hgs.wide, yl := hgs.yl, valid := hgs.valid, inr := hgs.inr, rdd := hgs.rdd }
    have hrun2 := hqs _ _ _ _ _ (hKR _ (hEnv (st' := ⟨s1.nt, fun _ => none, s1.heap, s1.used, X0⟩) hl2.mem)) hg3
    refine wpIn_mono (F := fen (some (w.heap.size + 1))) hrun2 ?_
    rintro e a3 W3 ⟨s3, φ3, M4, hgs3, hq3⟩
    obtain ⟨C3, hC3, hms3, _⟩ := hgs3.mem
    have hC3 : C3 = ⟨W1'.putObj (w.heap.size + 1) (.loop busy), ownOf φ2 s1.heap, M3, others C X (w.heap.size + 1)⟩ := hC3
    subst hC3
    obtain ⟨hl3, hk3⟩ := hl2.after (st' := behind (S []).nt s3) hms3 hgs3.gslots
    have hr3 : W3.heap[w.heap.size + 1]? = some (.loop busy) := (hk3.same _ (.inr (.inr rfl))).trans (World.putObj_heap_same hl1.lin)
    have hkeep : ∀ (o : Obj), o.isCells = false → KeepW (fun b => X b ∨ M b) W (W3.putObj (w.heap.size + 1) o) := fun o ho => by
      have hne : ∀ b, (X b ∨ M b) → b ≠ w.heap.size + 1 := by
        rintro b (hb | hb)
        · have := (hl.xlt b hb).1; omega
        · have := hm.heap.mlt b hb; omega
      refine ⟨hk3.os.trans hk1'.os, hk3.tape.trans hk1'.tape, hk3.output.trans hk1'.output, ?_, fun b hb => ?_, fun b => ?_⟩
      · have h1 := hk1'.size
        have h2 := hk3.size
        rw [putObj_size] at h2 ⊢
        omega
      · rw [World.putObj_heap_other (hne b hb), hk3.same b (hb.elim .inl (fun h => .inr (.inl (hl1.caps b h)))), World.putObj_heap_other (hne b hb), hk1'.same b (hb.elim .inl (fun h => .inr (.inl (hl.caps b h))))]
      · exact Nat.le_trans (hk1'.sizes b) (Nat.le_trans (bsize_turn hr1 rfl rfl b) (Nat.le_trans (hk3.sizes b) (bsize_turn hr3 rfl ho b)))
    have hend : ∀ (jump : Option Code), (Instr.endRound (w.heap.size + 1) jump).run P W3 = .ok (.bool jump.isNone) (W3.putObj (w.heap.size + 1) (.loop (rec (if jump.isNone then .ready else .done) jump))) := fun jump => by
      have := run_endRound (P := P) jump hr3
      rw [this, hbusy, hrec]
    have hrl : ∀ (o : Obj), (W3.putObj (w.heap.size + 1) o).heap[w.heap.size + 1]? = some o := fun o => World.putObj_heap_same hl3.lin
    cases e with
    | normal =>
      obtain ⟨hIn, hq3⟩ : I (pre ++ [x]) ∧ SubS (behind (S []).nt s3) (S (pre ++ [x])) := hq3
      have hgN : Good ⟨none, none, fun _ => True, fun _ => none, fun _ _ C' => C' = ⟨W3, ownOf φ3 s3.heap, M4, others C X (w.heap.size + 1)⟩, [], fun _ _ => none⟩ φ3 M4 (behind (S []).nt s3) { tmps := a.tmps, defers := [] } W3 :=
        { slots := hl3.slots, gslots := fun t v hv => (by cases hv), nms := fun _ _ _ h => (by cases h), mem := ⟨_, rfl, hl3.self, [], rfl, List.nodup_nil, fun d hd => (by cases hd)⟩, wide := hnts, yl := rfl, valid := rfl, inr := fun h => (by cases h), rdd := fun _ => rfl }
      obtain ⟨φ4, M5, hg4⟩ := hq3 _ _ _ _ _ hgN
      obtain ⟨C4, hC4, hm4, _⟩ := hg4.mem
      have hC4 : C4 = ⟨W3, ownOf φ3 s3.heap, M4, others C X (w.heap.size + 1)⟩ := hC4
      subst hC4
      obtain ⟨hl4, _⟩ := hl3.after (st' := S (pre ++ [x])) hm4 hg4.slots
      exact ⟨_, _, hend none, false, rfl, ⟨φ4, M5, S (pre ++ [x]), none, hl4.turn hr3 rfl rfl, hx _, hnt _, hrl _, fun _ => ⟨rfl, rfl, hIn⟩, fun h => by cases h⟩, hkeep _ rfl⟩
    | ret =>
      exact ⟨_, _, hend (some .ret), true, rfl, ⟨φ3, M4, behind (S []).nt s3, some .ret, hl3.turn hr3 rfl rfl, rfl, rfl, hrl _, fun h => (by cases h), fun _ => .inl ⟨rfl, hq3⟩⟩, hkeep _ rfl⟩
    | exit i =>
      exact ⟨_, _, hend (some (.exit i)), true, rfl, ⟨φ3, M4, behind (S []).nt s3, some (.exit i), hl3.turn hr3 rfl rfl, rfl, rfl, hrl _, fun h => (by cases h), fun _ => .inr ⟨i, rfl, hq3⟩⟩, hkeep _ rfl⟩
    | panic ch => obtain ⟨_, _, _, _, hf⟩ := hq3; exact hf.elim
    | goto t => exact hq3.elim
    | outgrown => exact hq3.elim

end
end Go.AM

namespace Go.AM
open Go Go.RowKit

/-- No loops, no drawn orders. -/
def plain : Code → Bool
  | .skip => true
  | .region _ _ draw => !draw
  | .seq a b => plain a && plain b
  | .cond _ a b => plain a && plain b
  | .block _ c => plain c
  | .exit _ => true
  | .ret => true
  | _ => false

def inlQ (T : Tab) (rs : List ResultVar) (k : AV → Heap → List Nat → Prop) : APost := fun e st =>
  match e with
  | .normal => finK T rs st fun l => k (pack l) st.heap st.used
  | .ret => finK T rs st fun l => k (pack l) st.heap st.used
  | _ => False

section
variable {P : Program} {K : Ctx} {C : Came} {φ φ' : Names} {M M' : Blocks} {H : Heap} {U : List Nat} {w w' : World} {T : Tab} {st st' : ASt} {a : Act}

theorem ex_soundM (hT : T.ok P = true) : ∀ (c : Code) (Q : APost) (st : ASt), plain c = true → ex P T c Q st → ∀ K φ M a w, K.ok P → Good K φ M st a w → c.wpIn (fen K.rd) 0 P (QCM K φ M w a.defers Q) a w := by
  intro c
  induction c with
  | skip => intro Q st _ h K φ M a w hK hg; exact wpIn_skip ⟨st, φ, M, hg, ⟨Mono.refl _ _ _, rfl⟩, h⟩
  | region id ops draw =>
    intro Q st hp h K φ M a w hK hg
    simp only [plain, Bool.not_eq_true'] at hp
    subst hp
    exact wpIn_region (aops_sound hT hK _ st φ M a w rfl (Mono.refl _ _ _) hg h)
  | seq x y ihx ihy =>
    intro Q st hp h K φ M a w hK hg
    simp only [plain, Bool.and_eq_true] at hp
    refine wpIn_seq (wpIn_mono (ihx _ st hp.1 h K φ M a w hK hg) ?_)
    rintro e a1 w1 ⟨s1, φ1, M1, hg1, ⟨hm1, hd1⟩, hq1⟩
    cases e with
    | normal =>
      refine wpIn_mono (ihy Q s1 hp.2 hq1 K φ1 M1 a1 w1 hK hg1) fun e a2 w2 hq => ?_
      rw [hd1] at hq
      exact hq.trans hm1
    | exit i => exact ⟨s1, φ1, M1, hg1, ⟨hm1, hd1⟩, hq1⟩
    | ret => exact ⟨s1, φ1, M1, hg1, ⟨hm1, hd1⟩, hq1⟩
    | panic ch => exact ⟨s1, φ1, M1, hg1, ⟨hm1, hd1⟩, hq1⟩
    | goto t => exact hq1.elim
    | outgrown => exact hq1.elim
  | cond c x y ihx ihy =>
    intro Q st hp h K φ M a w hK hg
    simp only [plain, Bool.and_eq_true] at hp
    simp only [ex] at h
    split at h
    · rename_i b hb
      have hv := (evalO_sound hg.slots hb).bool
      exact wpIn_cond_split hv (fun e => ihx Q st hp.1 (h.1 e) K φ M a w hK hg) (fun e => ihy Q st hp.2 (h.2 e) K φ M a w hK hg)
    · exact h.elim
  | block i c ih =>
    intro Q st hp h K φ M a w hK hg
    refine wpIn_block (wpIn_mono (ih _ st hp h K φ M a w hK hg) ?_)
    rintro e a1 w1 ⟨s1, φ1, M1, hg1, hm1, hq1⟩
    cases e with
    | normal => exact ⟨s1, φ1, M1, hg1, hm1, hq1⟩
    | exit j =>
      simp only [Exit.inBlock]
      simp only [blockQ] at hq1
      by_cases hj : j = i
      · subst hj
        rw [show Nat.beq j j = true from Nat.beq_refl j] at hq1
        rw [if_pos rfl]
        exact ⟨s1, φ1, M1, hg1, hm1, hq1⟩
      · rw [if_neg hj]
        have hb : Nat.beq j i = false := by
          cases hc : Nat.beq j i with
          | true => exact absurd (Nat.eq_of_beq_eq_true hc) hj
          | false => rfl
        rw [hb] at hq1
        exact ⟨s1, φ1, M1, hg1, hm1, hq1⟩
    | ret => exact ⟨s1, φ1, M1, hg1, hm1, hq1⟩
    | panic ch => exact ⟨s1, φ1, M1, hg1, hm1, hq1⟩
    | goto t => exact hq1.elim
    | outgrown => exact hq1.elim
  | exit i => intro Q st _ h K φ M a w hK hg; exact wpIn_exit ⟨st, φ, M, hg, ⟨Mono.refl _ _ _, rfl⟩, h⟩
  | ret => intro Q st _ h K φ M a w hK hg; exact wpIn_ret ⟨st, φ, M, hg, ⟨Mono.refl _ _ _, rfl⟩, h⟩
  | loop c _ => intro Q st hp; simp [plain] at hp
  | rangeFunc f ps a b _ _ => intro Q st hp; simp [plain] at hp
  | scope c _ => intro Q st hp; simp [plain] at hp
  | label l => intro Q st hp; simp [plain] at hp
  | goto l => intro Q st hp; simp [plain] at hp
  | refuse s => intro Q st hp; simp [plain] at hp

theorem CallK.inline {f : FuncId} {fn : Func} {c : Code} {args : List AV} {k kp : AV → Heap → List Nat → Prop} (hT : T.ok P = true) (hen : enters P f = true) (hf : P.funcs[f]? = some fn) (hb : fn.body = some c) {n : Nat} (hn : fn.ntmps = n)
    {rs : List ResultVar} (hrs : fn.results.toList = rs) (hp : plain c = true) (h : ex P T c (inlQ T rs k) ⟨n, argS args 0, H, U, X0⟩) : CallK P f args H U k kp := by
  intro C φ M w xs henv hm ha
  refine ⟨hen, calls_body hf hb ?_⟩
  have hK : (KH C).ok P := ⟨fun _ _ C' h => by obtain rfl : C' = _ := h; exact henv, fun l h => by cases h⟩
  have hgood : Good (KH C) φ M ⟨n, argS args 0, H, U, X0⟩ { tmps := xs ++ Array.replicate (n - xs.size) undef, defers := [] } w :=
    { slots := fun t v ht => by
        obtain ⟨h1, h2, h3⟩ := argS_get _ _ _ _ ht
        have hlt : t < args.length := by omega
        refine ⟨xs.getD t undef, ?_, by rw [← h3]; exact ha.2 t hlt⟩
        have : t < xs.size := by rw [ha.1]; exact hlt
        simp [Array.getElem?_append, this, Array.getD_eq_getD_getElem?]
      gslots := fun t v ht => (by cases ht), nms := fun _ _ _ h => (by cases h), mem := ⟨_, rfl, hm, [], rfl, List.nodup_nil, fun d hd => (by cases hd)⟩, wide := (by simp; omega), yl := rfl, valid := rfl, inr := fun h => (by cases h), rdd := fun _ => rfl }
  rw [hn]
  refine wpIn_mono (ex_soundM hT c _ _ hp h _ _ _ _ _ hK hgood) ?_
  rintro e a1 w1 ⟨s1, φ1, M1, hg1, ⟨hm1, hd1⟩, hq1⟩
  have hd0 : a1.defers = [] := hd1
  have fin : (finK T rs s1 fun l => k (pack l) s1.heap s1.used) → LeavesInM (fen none) 0 P fn a1.tmps (fun e w' => ∃ φ' M' H' U', (∀ i g b, φ i g = some b → φ' i g = some b) ∧ (∀ b, M b → M' b) ∧ (∀ b, M b → w'.heap[b]? = w.heap[b]?) ∧ (∀ b, bsize w b ≤ bsize w' b) ∧ Mem C φ' M' H' U' w' ∧
      match e with
      | .returned x => ∃ r, Ra φ' w' M' r x ∧ k r H' U'
      | .panicked ch => ∃ r x, ch = [{ v := x, recovered := false }] ∧ Ra φ' w' M' r x ∧ kp r H' U'
      | .outgrown => False) a1.defers .returning w1 := by
    intro hk
    rw [hd0]
    obtain ⟨l, ys, hkl, h1, h2, h3, h4⟩ := finK_sound hT hg1 _ _ hk
    obtain ⟨x, hx, hr⟩ := results_of hrs h1 h2 h3 h4
    obtain ⟨C1, hC1, hmm, _⟩ := hg1.mem
    have hC1 : C1 = C := hC1
    subst hC1
    exact ⟨x, hx, φ1, M1, s1.heap, s1.used, hm1.names, hm1.reads, hm1.same, hm1.sizes, hmm, pack l, hr, hkl⟩
  cases e with
  | normal => exact fin hq1
  | ret => exact fin hq1
  | panic ch => obtain ⟨_, _, _, _, hf⟩ := hq1; exact hf.elim
  | exit i => exact hq1.elim
  | goto l => exact hq1.elim
  | outgrown => exact hq1.elim

end
end Go.AM

namespace Go.AM
open Go Go.RowKit

def oldB (w : World) : Blocks := fun b => b < w.heap.size

/-- What is read at type t is an a with ok a, standing in n cells. -/
def RdT (P : Program) (t : TypeId) (n : Nat) {α : Type} (pv : α → Nat → PV) (ok : α → Prop) : Prop :=
  ∀ (H : Type) (enc : TypeId × Value → H) (w : World) (sp : Nat → Bool) (fuel : Nat) (cs : List Value) (x : DataW H × List MemPlace), DataW.trod enc P w 0 sp true fuel t cs = some x → (∀ k ∈ DataW.weights P t x.1, k ≤ reachBytes) →
    cs.length = n ∧ ∃ a, ok a ∧ ∀ j, j < n → (cs.getD j undef).oneCell' = true ∧ Rp w (oldB w) (pv a j) (cs.getD j undef)

section
variable {P : Program} {t e : TypeId} {n m : Nat} {α β γ : Type} {pv pv' : α → Nat → PV} {ok ok' : α → Prop}

theorem RdT.int {k : IntKind} (ht : P.underlying t = some (.int k)) : RdT P t 1 (fun (a : Int) _ => .int k a) (fun a => (Lit.int k a).wf = true) := by
  intro H enc w sp fuel cs x h hwt
  obtain ⟨a, rfl, _, hw⟩ := DataW.trod_int ht h
  exact ⟨rfl, a, hw, fun j hj => by
    obtain rfl : j = 0 := by omega
    exact ⟨rfl, .int _ _⟩⟩
theorem RdT.bool (ht : P.underlying t = some .bool) : RdT P t 1 (fun (a : Bool) _ => .bool a) (fun _ => True) := by
  intro H enc w sp fuel cs x h hwt
  obtain ⟨a, rfl, _⟩ := DataW.trod_bool ht h
  exact ⟨rfl, a, trivial, fun j hj => by
    obtain rfl : j = 0 := by omega
    exact ⟨rfl, .bool _⟩⟩
theorem RdT.str (ht : P.underlying t = some .string) : RdT P t 1 (fun (a : List UInt8) _ => .str a) (fun a => a.length ≤ reachBytes) := by
  intro H enc w sp fuel cs x h hwt
  obtain ⟨a, rfl, rfl, _⟩ := DataW.trod_string ht h
  exact ⟨rfl, a.data.toList, hwt _ (by simp [DataW.weights]), fun j hj => by
    obtain rfl : j = 0 := by omega
    exact ⟨rfl, .str _⟩⟩
theorem RdT.congr (h : RdT P t n pv ok) (hp : ∀ a j, j < n → pv a j = pv' a j) (hk : ∀ a, ok a → ok' a) : RdT P t n pv' ok' := by
  intro H enc w sp fuel cs x hx hwt
  obtain ⟨h1, a, h2, h3⟩ := h H enc w sp fuel cs x hx hwt
  exact ⟨h1, a, hk a h2, fun j hj => ⟨(h3 j hj).1, by rw [← hp a j hj]; exact (h3 j hj).2⟩⟩

theorem choose_list {p : Nat → α → Prop} : ∀ n, (∀ i, i < n → ∃ a, p i a) → ∃ l : List α, l.length = n ∧ ∀ d i, i < n → p i (l.getD i d)
  | 0, _ => ⟨[], rfl, fun _ i hi => absurd hi (Nat.not_lt_zero i)⟩
  | n + 1, h => by
    obtain ⟨l, h1, h2⟩ := choose_list n fun i hi => h i (by omega)
    obtain ⟨a, ha⟩ := h n (by omega)
    refine ⟨l ++ [a], by simp [h1], fun d i hi => ?_⟩
    by_cases hl : i < n
    · have := h2 d i hl
      rw [List.getD_eq_getElem?_getD] at this ⊢
      rwa [List.getElem?_append_left (by omega)]
    · obtain rfl : i = n := by omega
      rw [List.getD_eq_getElem?_getD, List.getElem?_append_right (by omega)]
      simpa [h1] using ha

theorem forall_of_getD {l : List α} {q : α → Prop} (d : α) (h : ∀ i, i < l.length → q (l.getD i d)) : ∀ a ∈ l, q a := fun a ha => by
  obtain ⟨i, hi, rfl⟩ := List.getElem_of_mem ha
  have := h i hi
  rwa [List.getD_eq_getElem?_getD, List.getElem?_eq_getElem hi] at this

theorem cells_get {w : World} {base : Nat} {a : Addr} {n : Nat} {cs : List Value} (h : w.cells? base a n = some cs) : cs.length = n ∧ ∀ j, j < n → w.cell? (a.add j) = some (cs.getD j undef) := by
  unfold World.cells? at h
  split at h
  · have hl := mapM_some_length h
    rw [List.length_range] at hl
    refine ⟨hl, fun j hj => ?_⟩
    have := mapM_some_get h j j (by simp [hj])
    rw [this, List.getD_eq_getElem?_getD, List.getElem?_eq_getElem (by omega)]
    rfl
  · cases h

theorem cell_lt {w : World} {b o : Nat} {v : Value} (h : w.cell? ⟨b, o, none⟩ = some v) : b < w.heap.size := by
  have hb : w.heap[b]? ≠ none := fun hn => by
    simp [World.cell?, hn] at h
  exact Nat.lt_of_not_le fun hle => hb (Array.getElem?_eq_none hle)

theorem weights_mem {H : Type} {d : DataW H} {q : Nat} : ∀ {l : List (DataW H)}, d ∈ l → q ∈ DataW.weights P e d → q ∈ DataW.weightsAll P e l
  | [], h, _ => by cases h
  | y :: l, h, hq => by
    simp only [DataW.weightsAll, List.mem_append]
    rcases List.mem_cons.mp h with rfl | h
    · exact .inl hq
    · exact .inr (weights_mem h hq)
theorem RdT.slice (ht : P.underlying t = some (.slice e)) (hc : P.cellsOf e = n) (hn : 0 < n) (d : α) (he : RdT P e n pv ok) :
    RdT P t 1 (fun (l : List α) _ => .seq e n l.length (fun i j => pv (l.getD i d) j)) (fun l => (∀ a ∈ l, ok a) ∧ l.length * P.bytesOf e ≤ reachBytes) := by
  intro H enc w sp fuel cs x h hwt
  rcases Deep.open_slice ht h with ⟨rfl, _⟩ | ⟨a, len, cap, m, k, D, Pl, rfl, _, hl, hm, hmm, rfl, hx⟩
  · exact ⟨rfl, [], ⟨fun a ha => (by cases ha), by rw [List.length_nil, Nat.zero_mul]; exact Nat.zero_le _⟩, fun j hj => by
      obtain rfl : j = 0 := by omega
      exact ⟨rfl, .seq0 _ _ _ _ _⟩⟩
  have hle : len ≤ m := by rw [hmm]; split <;> omega
  have hws : DataW.weights P t (.slice ((List.range len).map D) ((List.range (m - len)).map fun j => D (len + j))) = (len + (m - len)) * P.bytesOf e :: (DataW.weightsAll P e ((List.range len).map D) ++ DataW.weightsAll P e ((List.range (m - len)).map fun j => D (len + j))) := by
    simp only [DataW.weights, ht, List.length_map, List.length_range]
  dsimp only at hwt
  rw [hws] at hwt
  obtain ⟨l, h1, h2⟩ := choose_list (p := fun i z => ok z ∧ ∃ cs', w.cells? 0 (a.add (i * n)) n = some cs' ∧ ∀ j, j < n → (cs'.getD j undef).oneCell' = true ∧ Rp w (oldB w) (pv z j) (cs'.getD j undef)) len fun i hi => by
    obtain ⟨cs', g1, g2⟩ := hx i (by omega)
    rw [hc] at g1
    obtain ⟨_, z, g3, g4⟩ := he H enc w sp k cs' _ g2 fun q hq => hwt q (List.mem_cons_of_mem _ (List.mem_append_left _ (weights_mem (List.mem_map.mpr ⟨i, by simpa using hi, rfl⟩) hq)))
    exact ⟨z, g3, cs', g1, g4⟩
  refine ⟨rfl, l, ⟨forall_of_getD d fun i hi => (h2 d i (by omega)).1, Nat.le_trans (Nat.mul_le_mul_right _ (by omega)) (hwt _ (List.mem_cons_self ..))⟩, fun j hj => ?_⟩
  obtain rfl : j = 0 := by omega
  refine ⟨rfl, ?_⟩
  have hrow : ∀ i j, i < len → j < n → ∃ v, w.cell? ((a.add (i * n)).add j) = some v ∧ v.oneCell' = true ∧ Rp w (oldB w) (pv (l.getD i d) j) v := fun i j hi hj => by
    obtain ⟨_, cs', g1, g2⟩ := h2 d i hi
    exact ⟨_, (cells_get g1).2 j hj, g2 j hj⟩
  show Rp w (oldB w) (.seq e n l.length fun i j => pv (l.getD i d) j) (.slice (some a) len cap)
  rw [h1]
  by_cases h0 : len = 0
  · subst h0; exact .seq0 _ _ _ _ _
  have hai : a = ⟨a.block, a.off, none⟩ := by
    obtain ⟨v, hv, _⟩ := hrow 0 0 (by omega) hn
    obtain ⟨b, o, far⟩ := a
    cases far with
    | none => rfl
    | some f =>
      simp [World.cell?, Addr.add] at hv
      split at hv <;> cases hv
  have hadd : ∀ i j, (a.add (i * n)).add j = ⟨a.block, a.off + i * n + j, none⟩ := fun i j => by
    obtain ⟨b, o, far⟩ := a
    cases hai
    rw [Deep.add_add]
    simp only [Addr.add]
    split
    · rename_i h; simp only [Nat.add_assoc, h, Nat.add_zero]
    · simp only [Nat.add_assoc]
  rw [hai]
  refine .seq _ _ _ _ _ _ _ (fun i j => (w.cell? ⟨a.block, a.off + i * n + j, none⟩).getD undef) ?_ hl (fun i j hi hj => ?_) (fun i j hi hj => ?_) (fun i j hi hj => ?_)
  · obtain ⟨v, hv, _⟩ := hrow 0 0 (by omega) hn
    rw [hadd] at hv
    exact cell_lt hv
  all_goals
    obtain ⟨v, hv, h3, h4⟩ := hrow i j hi hj
    rw [hadd] at hv
    rw [hv]
  · rfl
  · exact h3
  · exact h4

theorem drop_take_getD {cs : List Value} {o n j : Nat} (hj : j < n) : ((cs.drop o).take n).getD j undef = cs.getD (o + j) undef := by
  rw [List.getD_eq_getElem?_getD, List.getD_eq_getElem?_getD, List.getElem?_take_of_lt hj, List.getElem?_drop]

theorem RdT.struct2 {f0 f1 : Field} {n0 n1 : Nat} {pv0 : α → Nat → PV} {pv1 : β → Nat → PV} {ok0 : α → Prop} {ok1 : β → Prop} (ht : P.underlying t = some (.struct #[f0, f1]))
    (ho0 : f0.offset = 0) (ho1 : f1.offset = n0) (hc0 : P.cellsOf f0.type = n0) (hc1 : P.cellsOf f1.type = n1) (hct : P.cellsOf t = n0 + n1) (h0 : RdT P f0.type n0 pv0 ok0) (h1 : RdT P f1.type n1 pv1 ok1) :
    RdT P t (n0 + n1) (fun (a : α × β) j => bif Nat.ble (j + 1) n0 then pv0 a.1 j else pv1 a.2 (j - n0)) (fun a => ok0 a.1 ∧ ok1 a.2) := by
  intro H enc w sp fuel cs x h hwt
  obtain ⟨xs, k, _, rfl, hlen, hxl, hf⟩ := DataW.trod_struct ht h
  have hl2 : xs.length = 2 := hxl
  match xs, hl2 with
  | [x0, x1], _ =>
  have hws : DataW.weights P t (.agg ([x0, x1].map (·.1))) = DataW.weights P f0.type x0.1 ++ (DataW.weights P f1.type x1.1 ++ []) := by
    simp only [DataW.weights, ht, List.map, DataW.weightsEach]
  dsimp only at hwt
  rw [hws] at hwt
  have g0 := hf 0 f0 rfl
  have g1 := hf 1 f1 rfl
  rw [ho0, hc0] at g0
  rw [ho1, hc1] at g1
  obtain ⟨_, a, k1, k2⟩ := h0 H enc w sp k _ x0 g0 fun q hq => hwt q (by simp only [List.mem_append]; exact .inl hq)
  obtain ⟨_, b, k3, k4⟩ := h1 H enc w sp k _ x1 g1 fun q hq => hwt q (by simp only [List.mem_append]; exact .inr (.inl hq))
  refine ⟨by rw [hlen, hct], (a, b), ⟨k1, k3⟩, fun j hj => ?_⟩
  by_cases hj0 : j < n0
  · have := k2 j hj0
    rw [drop_take_getD hj0, Nat.zero_add] at this
    dsimp only
    rw [Nat.ble_eq_true_of_le hj0]
    exact this
  · have := k4 (j - n0) (by omega)
    rw [drop_take_getD (by omega), show n0 + (j - n0) = j by omega] at this
    dsimp only
    rw [show Nat.ble (j + 1) n0 = false by rw [← Bool.not_eq_true, Nat.ble_eq]; omega]
    exact this

theorem RdT.struct3 {f0 f1 f2 : Field} {n0 n1 n2 : Nat} {pv0 : α → Nat → PV} {pv1 : β → Nat → PV} {pv2 : γ → Nat → PV} {ok0 : α → Prop} {ok1 : β → Prop} {ok2 : γ → Prop} (ht : P.underlying t = some (.struct #[f0, f1, f2]))
    (ho0 : f0.offset = 0) (ho1 : f1.offset = n0) (ho2 : f2.offset = n0 + n1) (hc0 : P.cellsOf f0.type = n0) (hc1 : P.cellsOf f1.type = n1) (hc2 : P.cellsOf f2.type = n2) (hct : P.cellsOf t = n0 + n1 + n2)
    (h0 : RdT P f0.type n0 pv0 ok0) (h1 : RdT P f1.type n1 pv1 ok1) (h2 : RdT P f2.type n2 pv2 ok2) :
    RdT P t (n0 + n1 + n2) (fun (a : α × β × γ) j => bif Nat.ble (j + 1) n0 then pv0 a.1 j else bif Nat.ble (j + 1) (n0 + n1) then pv1 a.2.1 (j - n0) else pv2 a.2.2 (j - (n0 + n1))) (fun a => ok0 a.1 ∧ ok1 a.2.1 ∧ ok2 a.2.2) := by
  intro H enc w sp fuel cs x h hwt
  obtain ⟨xs, k, _, rfl, hlen, hxl, hf⟩ := DataW.trod_struct ht h
  have hl2 : xs.length = 3 := hxl
  match xs, hl2 with
  | [x0, x1, x2], _ =>
  have hws : DataW.weights P t (.agg ([x0, x1, x2].map (·.1))) = DataW.weights P f0.type x0.1 ++ (DataW.weights P f1.type x1.1 ++ (DataW.weights P f2.type x2.1 ++ [])) := by
    simp only [DataW.weights, ht, List.map, DataW.weightsEach]
  dsimp only at hwt
  rw [hws] at hwt
  have g0 := hf 0 f0 rfl
  have g1 := hf 1 f1 rfl
  have g2 := hf 2 f2 rfl
  rw [ho0, hc0] at g0
  rw [ho1, hc1] at g1
  rw [ho2, hc2] at g2
  obtain ⟨_, a, k1, k2⟩ := h0 H enc w sp k _ x0 g0 fun q hq => hwt q (by simp only [List.mem_append]; exact .inl hq)
  obtain ⟨_, b, k3, k4⟩ := h1 H enc w sp k _ x1 g1 fun q hq => hwt q (by simp only [List.mem_append]; exact .inr (.inl hq))
  obtain ⟨_, c, k5, k6⟩ := h2 H enc w sp k _ x2 g2 fun q hq => hwt q (by simp only [List.mem_append]; exact .inr (.inr (.inl hq)))
  refine ⟨by rw [hlen, hct], (a, b, c), ⟨k1, k3, k5⟩, fun j hj => ?_⟩
  have no : ∀ {a b : Nat}, ¬ a < b → Nat.ble (a + 1) b = false := fun h => by rw [← Bool.not_eq_true, Nat.ble_eq]; exact h
  by_cases hj0 : j < n0
  · have := k2 j hj0
    rw [drop_take_getD hj0, Nat.zero_add] at this
    dsimp only
    rw [Nat.ble_eq_true_of_le hj0]
    exact this
  · by_cases hj1 : j < n0 + n1
    · have := k4 (j - n0) (by omega)
      rw [drop_take_getD (by omega), show n0 + (j - n0) = j by omega] at this
      dsimp only
      rw [no hj0, Nat.ble_eq_true_of_le hj1]
      exact this
    · have := k6 (j - (n0 + n1)) (by omega)
      rw [drop_take_getD (by omega), show n0 + n1 + (j - (n0 + n1)) = j by omega] at this
      dsimp only
      rw [no hj0, no hj1]
      exact this

theorem RdT.array {k : Nat} (ht : P.underlying t = some (.array k e)) (hc : P.cellsOf e = n) (hct : P.cellsOf t = k * n) (d : α) (he : RdT P e n pv ok) :
    RdT P t (k * n) (fun (l : List α) j => pv (l.getD (j / n) d) (j % n)) (fun l => l.length = k ∧ ∀ a ∈ l, ok a) := by
  intro H enc w sp fuel cs x h hwt
  obtain ⟨xs, m, _, rfl, hlen, hxl, hf⟩ := DataW.trod_array ht h
  have hws : DataW.weights P t (.agg (xs.map (·.1))) = DataW.weightsAll P e (xs.map (·.1)) := by
    simp only [DataW.weights, ht]
  dsimp only at hwt
  rw [hws] at hwt
  obtain ⟨l, h1, h2⟩ := choose_list (p := fun i z => ok z ∧ ∀ j, j < n → (cs.getD (i * n + j) undef).oneCell' = true ∧ Rp w (oldB w) (pv z j) (cs.getD (i * n + j) undef)) k fun i hi => by
    have g := hf i hi
    rw [List.getElem?_eq_getElem (by omega), hc] at g
    obtain ⟨_, z, g3, g4⟩ := he H enc w sp m _ _ g fun q hq => hwt q (weights_mem (List.mem_map.mpr ⟨_, List.getElem_mem _, rfl⟩) hq)
    exact ⟨z, g3, fun j hj => by have := g4 j hj; rwa [drop_take_getD hj] at this⟩
  refine ⟨by rw [hlen, hct], l, ⟨h1, forall_of_getD d fun i hi => (h2 d i (by omega)).1⟩, fun j hj => ?_⟩
  have hn : 0 < n := Nat.pos_of_ne_zero fun h => by subst h; omega
  have := (h2 d (j / n) (Nat.div_lt_of_lt_mul (by rw [Nat.mul_comm]; exact hj))).2 (j % n) (Nat.mod_lt _ hn)
  rwa [show j / n * n + j % n = j by rw [Nat.mul_comm]; exact Nat.div_add_mod j n] at this

/-- An argument of one cell. -/
theorem RdT.arg1 (h : RdT P t 1 pv ok) {H : Type} {enc : TypeId × Value → H} {w : World} {sp : Nat → Bool} {v : Value} {dd : DataW H} {ps : List MemPlace} (hv : ∀ cs, v ≠ .agg cs) (hd : DataW.Trod enc P w 0 sp true t v dd ps) (hwt : ∀ k ∈ DataW.weights P t dd, k ≤ reachBytes) :
    ∃ a, ok a ∧ ∀ φ, Ra φ w (oldB w) (.pv (pv a 0)) v := by
  obtain ⟨fuel, hf⟩ := hd
  obtain ⟨_, a, h1, h2⟩ := h H enc w sp fuel _ _ hf hwt
  have := (h2 0 (by omega)).2
  refine ⟨a, h1, fun φ => .pv _ _ ?_⟩
  cases v with
  | agg cs => exact absurd rfl (hv cs)
  | _ => exact this
/-- An argument of several. -/
theorem RdT.argN (h : RdT P t n pv ok) {H : Type} {enc : TypeId × Value → H} {w : World} {sp : Nat → Bool} {v : Value} {dd : DataW H} {ps : List MemPlace} (hv : ∃ cs, v = .agg cs) (hd : DataW.Trod enc P w 0 sp true t v dd ps) (hwt : ∀ k ∈ DataW.weights P t dd, k ≤ reachBytes) :
    ∃ a, ok a ∧ ∀ φ, Ra φ w (oldB w) (.agg n fun j => .pv (pv a j)) v := by
  obtain ⟨cs, rfl⟩ := hv
  obtain ⟨fuel, hf⟩ := hd
  obtain ⟨h0, a, h1, h2⟩ := h H enc w sp fuel _ _ hf hwt
  have e : ∀ j, cs.toList.getD j undef = cs.getD j undef := fun j => by simp [List.getD_eq_getElem?_getD, Array.getD_eq_getD_getElem?]
  refine ⟨a, h1, fun φ => .agg _ _ _ (by simpa [Value.cells] using h0) (fun i hi => ?_) (fun i hi => .pv _ _ ?_)⟩
  · have := (h2 i hi).1
    rwa [show (Value.agg cs).cells.toList = cs.toList from rfl, e] at this
  · have := (h2 i hi).2
    rwa [show (Value.agg cs).cells.toList = cs.toList from rfl, e] at this

theorem args_nil {φ : Names} {w : World} {M : Blocks} : ArgsAre φ w M [] #[] := ⟨rfl, fun i hi => absurd hi (Nat.not_lt_zero i)⟩
theorem args_one {φ : Names} {w : World} {M : Blocks} {a : AV} {v : Value} (h : Ra φ w M a v) : ArgsAre φ w M [a] #[v] := ⟨rfl, fun i hi => by
  obtain rfl : i = 0 := by simp at hi; omega
  exact h⟩
theorem args_two {φ : Names} {w : World} {M : Blocks} {a b : AV} {u v : Value} (h1 : Ra φ w M a u) (h2 : Ra φ w M b v) : ArgsAre φ w M [a, b] #[u, v] := ⟨rfl, fun i hi => by
  match i, hi with
  | 0, _ => exact h1
  | 1, _ => exact h2⟩
theorem args_three {φ : Names} {w : World} {M : Blocks} {a b c : AV} {u v x : Value} (h1 : Ra φ w M a u) (h2 : Ra φ w M b v) (h3 : Ra φ w M c x) : ArgsAre φ w M [a, b, c] #[u, v, x] := ⟨rfl, fun i hi => by
  match i, hi with
  | 0, _ => exact h1
  | 1, _ => exact h2
  | 2, _ => exact h3⟩

theorem trodAll_stays (hl : laidOutB P = true) {W W' : World} (hold : ∀ b, b < W.heap.size → W'.heap[b]? = W.heap[b]?) {H : Type} {enc : TypeId × Value → H} {sp' : Nat → Bool} :
    ∀ {ts : List TypeId} {vs : List Value} {ds : List (DataW H)} {ps : List MemPlace}, (∀ u ∈ ts, P.readableRec u = true ∧ u < P.types.size) → DataW.TrodAll enc P W 0 (fun _ => true) true ts vs ds ps → (∀ p ∈ ps, sp' p.block = true ∧ p.block < W.heap.size) →
      DataW.TrodAll enc P W' 0 sp' true ts vs ds ps
  | [], [], [], _, _, h, _ => h
  | [], [], _ :: _, _, _, h, _ => h.elim
  | [], _ :: _, _, _, _, h, _ => h.elim
  | _ :: _, [], _, _, _, h, _ => h.elim
  | _ :: _, _ :: _, [], _, _, h, _ => h.elim
  | u :: ts, v :: vs, d :: ds, ps, hr, ⟨p, q, h1, h2, he⟩, hs => by
    subst he
    refine ⟨p, q, WideElems.Trod_stays hl (hr u (List.mem_cons_self ..)).1 (hr u (List.mem_cons_self ..)).2 h1 (fun x hx => ?_) (fun x hx => (hs x (List.mem_append_left _ hx)).1),
      trodAll_stays hl hold (fun u hu => hr u (List.mem_cons_of_mem _ hu)) h2 (fun x hx => hs x (List.mem_append_right _ hx)), rfl⟩
    have hlt := (hs x (List.mem_append_left _ hx)).2
    cases x with
    | cell b o =>
      show W'.cell? ⟨b, o, none⟩ = W.cell? ⟨b, o, none⟩
      exact World.cell?_of_block (hold b hlt)
    | map b => exact hold b hlt

theorem kept_of_old {w w' : World} (h1 : w'.os = w.os) (h2 : w'.output = w.output) (h : ∀ b, b < w.heap.size → w'.heap[b]? = w.heap[b]?) (may : MemPlace → Prop) : w.keptBut w' may := by
  refine ⟨h1, h2, fun i hi => ?_⟩
  rw [h i hi]
  cases w.heap[i]? with
  | none => rfl
  | some o => cases o <;> first | exact ⟨rfl, rfl, rfl, fun _ _ => rfl⟩ | exact .inr ⟨rfl, rfl⟩ | rfl

end
end Go.AM

namespace Go.AM
open Go Go.RowKit Go.ChangeShapes Go.WideShapes Go.ChangeAt

theorem post_same {H : Type} {enc : TypeId × Value → H} {P : Program} {f : Func} {s : ChangeSpec} {apart fresh handsOn again : Bool} {W W' : World} {args : Array Value} {v : Value} {ds gs : List (DataW H)} {before pa pv : List MemPlace}
    (hW : DataW.Whole enc P f.params.toList s.vars apart W args.toList ds gs before)
    (hres : ∀ (b : Nat) (sp : Nat → Bool) (hd : Bool), DataW.TrodAll enc P W' b sp hd f.resultTypes.toList (v.resultList f.resultTypes.size) (s.fn H (ds ++ gs)).results [])
    (hargs : ∀ sp : Nat → Bool, (∀ p ∈ before, sp p.block = true) → DataW.TrodAll enc P W' 0 sp true f.params.toList args.toList (s.fn H (ds ++ gs)).args pa)
    (hvars : ∀ sp : Nat → Bool, (∀ p ∈ before, sp p.block = true) → DataW.TrodVars enc P W' sp s.vars (s.fn H (ds ++ gs)).vars pv)
    (hps : before = pa ++ pv) (hk : W.keptBut W' (· ∈ before)) (hfz : ∀ a : Addr, a.block < W.heap.size → W'.frozen? a = W.frozen? a)
    (hok : ∀ (j : Nat) (t : TypeId) (r : Value), f.resultTypes[j]? = some t → (v.resultList f.resultTypes.size)[j]? = some r → Value.okWide P W' .any 0 t r) :
    s.post enc P f apart fresh handsOn again W args v W' := by
  have hlt : ∀ p ∈ before, p.block < W.heap.size := fun p hp => hW.lt p hp
  have hold : ∀ p ∈ before, (fun b => decide (b < W.heap.size)) p.block = true := fun p hp => by simpa using hlt p hp
  refine ⟨ds, gs, before, [], pa, pv, hW, hres _ _ _, hargs _ hold, hvars _ hold, World.keptBut_mono (fun p hp => ⟨hp, ?_⟩) hk, fun _ => ?_⟩
  · rw [hps, List.mem_append] at hp
    exact Or.inr hp
  · obtain ⟨_, _, _, _, _, hz, hn⟩ := hW
    refine ⟨hok, _, _, ([] ++ pa) ++ pv, ⟨[] ++ pa, pv, trodAll_append (hargs _ (fun _ _ => rfl)) (hres _ _ _), hvars _ (fun _ _ => rfl), rfl, ?_, ?_⟩, ?_⟩
    · intro b off hp
      have hp : MemPlace.cell b off ∈ before := by rw [hps]; simpa using hp
      rw [hfz _ (hlt _ hp)]
      exact hz b off hp
    · intro ha
      have := hn ha
      rw [hps] at this
      simpa using this
    · intro p hp _
      rw [hps]
      simpa using hp

theorem weights_cons {H : Type} {P : Program} {t : TypeId} {ts : List TypeId} {d : DataW H} {ds : List (DataW H)} (h : (DataW.weightsEach P (t :: ts) (d :: ds)).all (· ≤ reachBytes) = true) :
    (∀ k ∈ DataW.weights P t d, k ≤ reachBytes) ∧ (DataW.weightsEach P ts ds).all (· ≤ reachBytes) = true := by
  simp only [DataW.weightsEach, List.all_append, Bool.and_eq_true] at h
  exact ⟨fun k hk => by simpa using List.all_eq_true.mp h.1 k hk, h.2⟩

/-- The law answers true and leaves its arguments as they were. -/
theorem law_calls {H : Type} {enc : TypeId × Value → H} {P : Program} {f : FuncId} {fn : Func} {s : ChangeSpec} {tb : TypeId} {apart fresh handsOn again : Bool} {W : World} {args : Array Value} {ds gs : List (DataW H)} {before : List MemPlace}
    (hl : laidOutB P = true) (hp : fn.params.toList.all (fun t => P.readableRec t && decide (t < P.types.size)) = true) (hb : P.underlying tb = some .bool) (hr : fn.resultTypes = #[tb]) (hsv : s.vars = [])
    (hW : DataW.Whole enc P fn.params.toList s.vars apart W args.toList ds gs before) (hs : s.fn H ds = { results := [.lit (.bool true)], args := ds })
    (henv : EnvM P W (oldB W)) (avs : List AV) (ha : ArgsAre noNames W (oldB W) avs args) (hc : PureCall P f avs (.pv (.bool true))) :
    Calls P f args W fun e W' => ∃ v, e = .returned v ∧ s.post enc P fn apart fresh handsOn again W args v W' := by
  refine (hc.2 W (oldB W) args (fun b h => h) henv ha).mono fun e W' hq => ?_
  obtain ⟨x, rfl, h1, h2, h3, h4, h5, h6⟩ := hq
  obtain ⟨p, q, k1, k2, k3, k4, k5⟩ := hW
  have hlt : ∀ y ∈ before, y.block < W.heap.size := fun y hy => DataW.Whole.lt (enc := enc) ⟨p, q, k1, k2, k3, k4, k5⟩ y hy
  have hv := k2
  rw [hsv] at hv
  obtain ⟨hgs, hq0⟩ := trodVars_none hv
  subst hgs
  have hx : x = .bool true := by
    cases h6 with
    | pv _ _ h => cases h; rfl
  subst hx
  refine ⟨_, rfl, post_same (pa := p) (pv := q) ⟨p, q, k1, k2, k3, k4, k5⟩ (fun b sp hd => ?_) (fun sp hsp => ?_) (fun sp hsp => ?_) k3 (kept_of_old h1 h3 h5 _) (fun a ha => ?_) ?_⟩
  · rw [List.append_nil, hs, hr]
    exact trodAll_mk1 (shut_bool hb _)
  · rw [List.append_nil, hs]
    refine trodAll_stays hl h5 (fun u hu => ?_) k1 fun y hy => ⟨hsp y (by rw [k3]; exact List.mem_append_left _ hy), hlt y (by rw [k3]; exact List.mem_append_left _ hy)⟩
    have := List.all_eq_true.mp hp u hu
    simpa using this
  · rw [List.append_nil, hs, hsv]
    exact hq0
  · simp only [World.frozen?, h5 a.block ha]
  · exact ok_one hr rfl (okWide_bool_mk hb _)
end Go.AM

namespace Go.AM
open Go Go.RowKit

/-- The first n parts of a sequence, and what is behind them. -/
def headN : Nat → Code → Code
  | 0, _ => .skip
  | n + 1, .seq a b => .seq a (headN n b)
  | _ + 1, _ => .skip
def tailN : Nat → Code → Code
  | 0, c => c
  | n + 1, .seq _ b => tailN n b
  | _ + 1, c => c

section
variable {P : Program} {T : Tab}

theorem ex_cut (hT : T.ok P = true) (hmix : P.follows .mixedOrders = true) {Q : APost} : ∀ (n : Nat) (c : Code) (st : ASt), ex P T (headN n c) (seqQ (AWP P (tailN n c) Q) Q) st → AWP P c Q st := by
  intro n
  induction n with
  | zero => intro c st h; exact h
  | succ n ih =>
    intro c st h
    cases c with
    | seq a b =>
      have h1 : ex P T a (seqQ (ex P T (headN n b) (seqQ (AWP P (tailN n b) Q) Q)) (seqQ (AWP P (tailN n b) Q) Q)) st := h
      refine awp_seq ((ex_sound hT hmix _ _ _ h1).mono fun e s hq => ?_)
      cases e with
      | normal => exact ih b s hq
      | exit i => exact hq
      | ret => exact hq
      | panic v => exact hq
    | _ => exact h

theorem PureCall.runC {f : FuncId} {fn : Func} {c : Code} {args : List AV} {r : AV} (hT : T.ok P = true) (hmix : P.follows .mixedOrders = true) (hen : enters P f = true) (hf : P.funcs[f]? = some fn) (hb : fn.body = some c) {n : Nat} (hn : fn.ntmps = n)
    {rs : List ResultVar} (hrs : fn.results.toList = rs) (k : Nat) (h : ex P T (headN k c) (seqQ (AWP P (tailN k c) (finQ T rs fun v H => ∃ B, VLe H B [] v r)) (finQ T rs fun v H => ∃ B, VLe H B [] v r)) (st0 n args)) : PureCall P f args r :=
  PureCall.body hT hen hf hb hn hrs (ex_cut hT hmix k c _ h)

theorem awp_ex (hT : T.ok P = true) (hmix : P.follows .mixedOrders = true) {Q : APost} {c : Code} {st st' : ASt} (hs : SubS st st') (h : ex P T c Q st') : AWP P c Q st := AWP.sub hs (ex_sound hT hmix _ _ _ h)

end
end Go.AM

namespace Go.AM
open Go Go.RowKit
section
variable {α : Type} {H : Heap} {B : List Nat} {U : List (Nat × Nat)} {E E' : TypeId} {sz g : Nat} {c : α → Nat → PV} {d : α} {L M : List α}

/-- c says a thing's cells. -/
def rowA (E : TypeId) (sz : Nat) (c : α → Nat → PV) (d : α) (g : Nat) (L : List α) : AO := ⟨E, g, sz, L.length, fun i j => .pv (c (L.getD i d) j)⟩
def sqA (E : TypeId) (sz : Nat) (c : α → Nat → PV) (d : α) (L : List α) : PV := .seq E sz L.length fun i j => c (L.getD i d) j

theorem getD_left {i : Nat} (h : i < L.length) : (L ++ M).getD i d = L.getD i d := by
  rw [List.getD_eq_getElem?_getD, List.getD_eq_getElem?_getD, List.getElem?_append_left h]
theorem getD_right {i : Nat} (h : ¬ i < L.length) : (L ++ M).getD i d = M.getD (i - L.length) d := by
  rw [List.getD_eq_getElem?_getD, List.getD_eq_getElem?_getD, List.getElem?_append_right (by omega)]
theorem OLe.keepA : OLe H B U (rowA E sz c d g L) (rowA E sz c d g L) := ⟨rfl, rfl, rfl, Nat.le_refl _, fun _ _ _ _ => .same⟩
theorem OLe.catA {F f : Nat → Nat → AV} {n m s0 g' : Nat} {E0 : TypeId} (hE : E0 = E) (hs : s0 = sz) (hn : m = L.length + M.length) (hF : F = fun i j => .pv (c (L.getD i d) j)) (hl : n = L.length)
    (h : ∀ i j, i < M.length → j < sz → VLe H B U (f i j) (.pv (c (M.getD i d) j))) : OLe H B U ⟨E0, g', s0, m, catF F f n⟩ (rowA E sz c d g' (L ++ M)) := by
  subst hl hE hs hn hF
  refine ⟨rfl, rfl, rfl, by simp [rowA], fun i j hi hj => ?_⟩
  have hi' : i < L.length + M.length := by simpa [rowA] using hi
  show VLe H B U (catF (fun i j => .pv (c (L.getD i d) j)) f L.length i j) (.pv (c ((L ++ M).getD i d) j))
  unfold catF
  by_cases hk : i < L.length
  · rw [Nat.ble_eq_true_of_le hk, getD_left hk]; exact .same
  · have hb : Nat.ble (i + 1) L.length = false := by rw [← Bool.not_eq_true, Nat.ble_eq]; exact hk
    rw [hb, getD_right hk]
    exact h _ j (by omega) hj
theorem OLe.snocA {F f : Nat → Nat → AV} {n m s0 g' : Nat} {E0 : TypeId} {a : α} (hE : E0 = E) (hs : s0 = sz) (hn : m = L.length + 1) (hF : F = fun i j => .pv (c (L.getD i d) j)) (hl : n = L.length)
    (h : ∀ j, j < sz → VLe H B U (f 0 j) (.pv (c a j))) : OLe H B U ⟨E0, g', s0, m, catF F f n⟩ (rowA E sz c d g' (L ++ [a])) :=
  .catA hE hs hn hF hl fun i j hi hj => by
    have : i = 0 := by simp at hi; omega
    subst this; exact h j hj
theorem VLe.frzO {o : AO} {id n : Nat} (hb : memN id B = true) (hH : H id = some o) (h : OLe H B U o (rowA E sz c d g L)) (hn : n = L.length) : VLe H B U (.row id g sz 0 n) (.pv (sqA E' sz c d L)) := by
  subst hn
  obtain ⟨h1, h2, h3, h4, h5⟩ := h
  refine .frz id g sz 0 L.length o E' _ hb hH h2 h3 (by rw [Nat.zero_add]; exact h4) fun i j hi hj => ?_
  rw [Nat.zero_add]
  exact h5 i j hi (by rw [← h3]; exact hj)
/-- The cells are those of the list's things. -/
def CellsA (H : Heap) (B : List Nat) (U : List (Nat × Nat)) (F : Nat → Nat → AV) (c : α → Nat → PV) (d : α) (sz : Nat) (L : List α) : Prop := ∀ i j, i < L.length → j < sz → VLe H B U (F i j) (.pv (c (L.getD i d) j))
theorem CellsA.base : CellsA H B U (rowA E sz c d g L).f c d sz L := fun _ _ _ _ => .same
theorem CellsA.cat {F f : Nat → Nat → AV} {n : Nat} (hF : CellsA H B U F c d sz L) (hl : n = L.length) (hf : CellsA H B U f c d sz M) : CellsA H B U (catF F f n) c d sz (L ++ M) := by
  intro i j hi hj
  subst hl
  rw [List.length_append] at hi
  unfold catF
  by_cases hk : i < L.length
  · rw [Nat.ble_eq_true_of_le hk, getD_left hk]; exact hF i j hk hj
  · have hb : Nat.ble (i + 1) L.length = false := by rw [← Bool.not_eq_true, Nat.ble_eq]; exact hk
    rw [hb, getD_right hk]
    exact hf _ j (by omega) hj
theorem CellsA.one {f : Nat → Nat → AV} {a : α} (h : ∀ j, j < sz → VLe H B U (f 0 j) (.pv (c a j))) : CellsA H B U f c d sz [a] := fun i j hi hj => by
  have : i = 0 := by simp at hi; omega
  subst this; exact h j hj
theorem CellsA.row {F : Nat → Nat → AV} {E0 : TypeId} {m s0 g' : Nat} (h : CellsA H B U F c d sz L) (hE : E0 = E) (hs : s0 = sz) (hm : m = L.length) : OLe H B U ⟨E0, g', s0, m, F⟩ (rowA E sz c d g' L) := by
  subst hE hs hm
  exact ⟨rfl, rfl, rfl, Nat.le_refl _, fun i j hi hj => h i j hi hj⟩
/-- A row that is no more written. -/
theorem VLe.frzA {id n : Nat} (hb : memN id B = true) (hH : H id = some (rowA E sz c d g L)) (hn : n = L.length) : VLe H B U (.row id g sz 0 n) (.pv (sqA E' sz c d L)) := by
  subst hn
  refine .frz _ _ _ _ _ _ _ _ hb hH rfl rfl (by simp [rowA]) fun i j hi hj => ?_
  rw [Nat.zero_add]
  exact .same
theorem VLe.nilA : VLe H B U .nilS (.pv (sqA E sz c d [])) := .nil _ _ _
theorem VLe.seqA : VLe H B U (.pv (sqA E sz c d L)) (.pv (sqA E' sz c d L)) := .pv _ _ (.seq _ _ _ _ _ _ fun _ _ _ _ => .refl _)
theorem drop_getD {i : Nat} (h : i < L.length) : L.drop i = L.getD i d :: L.drop (i + 1) := by
  rw [List.drop_eq_getElem_cons h]; simp [h]
end
end Go.AM

namespace Go.AM
open Go Go.RowKit
section
variable {C : Came} {φ : Names} {M : Blocks} {H : Heap} {U : List Nat} {w w' : World}

/-- The heap without a row. -/
def delH (H : Heap) (k : Nat) : Heap := fun i => bif Nat.beq i k then none else H i
theorem delH_get {k id : Nat} {o : AO} (h : delH H k id = some o) : H id = some o ∧ id ≠ k := by
  unfold delH at h
  cases hb : Nat.beq id k with
  | true => rw [hb] at h; cases h
  | false =>
    rw [hb] at h
    exact ⟨h, fun e => by subst e; rw [Nat.beq_refl] at hb; cases hb⟩
theorem Mem.del (hm : Mem C φ M H U w) (k : Nat) : Mem C φ M (delH H k) U w :=
  { heap := { own := fun id o h => hm.heap.own id o (delH_get h).1, inj := fun i1 i2 o1 o2 b h1 h2 => hm.heap.inj i1 i2 o1 o2 b (delH_get h1).1 (delH_get h2).1, last := fun id o g b h => hm.heap.last id o g b (delH_get h).1, mlt := hm.heap.mlt }
    used := hm.used, dom := fun id o h => hm.dom id o (delH_get h).1, os := hm.os, tape := hm.tape, output := hm.output, size := hm.size, frame := hm.frame, fresh := fun id o b h => hm.fresh id o b (delH_get h).1
    reads := hm.reads, keeps := hm.keeps, sizes := hm.sizes, nlt := hm.nlt, far := hm.far }
theorem Mem.patch (hm : Mem C φ M H U w) {g : Nat} (hsz : w'.heap.size = w.heap.size) (hoth : ∀ b, b ≠ g → w'.heap[b]? = w.heap[b]?) (hbs : ∀ b, bsize w b ≤ bsize w' b) (hfree : C.own g ∨ C.w.heap.size ≤ g) (hM : ¬ M g)
    (hH : ∀ id o, H id = some o → φ id o.gen ≠ some g) (hos : w'.os = w.os) (ht : w'.tape = w.tape) (ho : w'.output = w.output) : Mem C φ M H U w' := by
  have hMh : ∀ b, M b → w'.heap[b]? = w.heap[b]? := fun b hb => hoth b fun e => hM (e ▸ hb)
  refine { heap := { own := ?_, inj := hm.heap.inj, last := hm.heap.last, mlt := fun b hb => by rw [hsz]; exact hm.heap.mlt b hb }, used := hm.used, dom := hm.dom, os := hos.trans hm.os, tape := ht.trans hm.tape, output := ho.trans hm.output, size := by rw [hsz]; exact hm.size, frame := ?_, fresh := hm.fresh, reads := hm.reads, keeps := hm.keeps, sizes := fun b => Nat.le_trans (hm.sizes b) (hbs b), nlt := fun i g b h => by rw [hsz]; exact hm.nlt i g b h, far := hm.far }
  · intro id o h
    rcases hm.heap.own id o h with h0 | ⟨b, arr, fz, h1, h2, h3, h4, h5, h6, h7⟩
    · exact .inl ⟨h0.1, ObjAt.or h0.2 (fun h => h) (fun _ h => h) (fun b hb _ _ => hoth b (fun e => hH id o h (by rw [hb, e]))) (fun _ _ _ h => h) (fun _ _ hx => hx.mono (fun _ _ _ h => h) (fun _ h => h) hMh hbs)⟩
    · have hb : b ≠ g := fun e => hH id o h (by rw [h1, e])
      exact .inr ⟨b, arr, fz, h1, by rw [hoth b hb]; exact h2, h3, h4, h5, h6, fun i j hi hj => (h7 i j hi hj).mono (fun _ _ _ h => h) (fun _ h => h) hMh hbs⟩
  · intro b hb hno
    rw [hoth b]
    · exact hm.frame b hb hno
    · intro e
      subst e
      rcases hfree with h | h
      · exact hno h
      · omega
theorem arr_one {xs : Array Value} {v : Value} (h1 : xs.size = 1) (h2 : xs.getD 0 undef = v) : xs = #[v] := by
  apply Array.ext
  · simpa using h1
  · intro i hi _
    have hi0 : i = 0 := by omega
    subst hi0
    simpa [Array.getD_eq_getD_getElem?, hi] using h2
theorem heap_freeze (w : World) (g n b : Nat) (h : b ≠ g) : (w.freeze ⟨g, 0, none⟩ n).heap[b]? = w.heap[b]? := by
  unfold World.freeze
  split
  · rfl
  · simp only [Array.getElem?_modify]
    rw [if_neg (fun e => h e.symm)]
theorem size_freeze (w : World) (g n : Nat) : (w.freeze ⟨g, 0, none⟩ n).heap.size = w.heap.size := by
  unfold World.freeze; split <;> simp
theorem bsize_freeze (w : World) (g n b : Nat) : bsize (w.freeze ⟨g, 0, none⟩ n) b = bsize w b := by
  by_cases h : b = g
  · subst h
    by_cases hn : n = 0
    · unfold World.freeze; rw [if_pos hn]
    · have e : (w.freeze ⟨b, 0, none⟩ n).heap[b]? = (w.heap[b]?).map fun
          | .cells c elem (lo, hi) => .cells c elem (if lo == hi then (0, 0 + n) else (min lo 0, max hi (0 + n)))
          | o => o := by
        unfold World.freeze
        rw [if_neg hn]
        simp only [Array.getElem?_modify, if_true]
        rfl
      unfold bsize
      rw [e]
      cases hc : w.heap[b]? with
      | none => rfl
      | some o => cases o <;> rfl
  · unfold bsize; rw [heap_freeze w g n b h]
end
end Go.AM

namespace Go.AM
open Go Go.RowKit
section
variable {P : Program} {T : Tab} {ops : List Oper} {i : Nat} {o : Oper} {l : List (Nat × Oper)} {st : ASt} {acc : List It} {k : List It → ASt → Prop}

/-- The rest of a drawn region; a wall that no computation goes through. -/
inductive AD (P : Program) (T : Tab) (ops : List Oper) (l : List (Nat × Oper)) (st : ASt) (acc : List It) (k : List It → ASt → Prop) : Prop
  | mk : adrawK P T ops l st acc k → AD P T ops l st acc k
  | mk' : adrawK P T ops l st acc k → AD P T ops l st acc k
theorem AD.out (h : AD P T ops l st acc k) : adrawK P T ops l st acc k := by cases h <;> assumption
theorem AD_eq : AD P T ops l st acc k = adrawK P T ops l st acc k := propext ⟨AD.out, AD.mk⟩
theorem AD.nil (h : k acc st) : AD P T ops [] st acc k := .mk <| by rw [adrawK]; exact h
theorem AD.plain (hg : o.guard = none) (h : drawStep P T i o st fun it st => AD P T ops l st (it :: acc) k) : AD P T ops ((i, o) :: l) st acc k := .mk <| by
  simp only [AD_eq] at h
  simp only [adrawK, hg]
  exact h
theorem AD.test {j dj nt : Nat} {w b : Bool} {s H U X} (hg : o.guard = some (j, w)) (hd : (ops[j]?).bind (·.dst) = some dj) (hs : s dj = some (.pv (.bool b)))
    (h : (b = w → drawStep P T i o ⟨nt, updF s dj (.pv (.bool w)), H, U, X⟩ fun it st => AD P T ops l st (it :: acc) k) ∧
      (b = (!w) → AD P T ops l (ASt.kill ⟨nt, updF s dj (.pv (.bool (!w))), H, U, X⟩ o.dst) (⟨i, o, .nilS, [], [], []⟩ :: acc) k)) :
    AD P T ops ((i, o) :: l) ⟨nt, s, H, U, X⟩ acc k := .mk <| by
  simp only [AD_eq] at h
  simp only [adrawK, hg, hd, hs]
  exact h
/-- A test whose outcome is a literal. -/
theorem AD.on {j dj nt : Nat} {w : Bool} {s H U X} (hg : o.guard = some (j, w)) (hd : (ops[j]?).bind (·.dst) = some dj) (hs : s dj = some (.pv (.bool w)))
    (h : drawStep P T i o ⟨nt, updF s dj (.pv (.bool w)), H, U, X⟩ fun it st => AD P T ops l st (it :: acc) k) : AD P T ops ((i, o) :: l) ⟨nt, s, H, U, X⟩ acc k :=
  .test hg hd hs ⟨fun _ => h, fun e => absurd e (by cases w <;> decide)⟩
theorem AD.off {j dj nt : Nat} {w : Bool} {s H U X} (hg : o.guard = some (j, w)) (hd : (ops[j]?).bind (·.dst) = some dj) (hs : s dj = some (.pv (.bool (!w))))
    (h : AD P T ops l (ASt.kill ⟨nt, updF s dj (.pv (.bool (!w))), H, U, X⟩ o.dst) (⟨i, o, .nilS, [], [], []⟩ :: acc) k) : AD P T ops ((i, o) :: l) ⟨nt, s, H, U, X⟩ acc k :=
  .test hg hd hs ⟨fun e => absurd e (by cases w <;> decide), fun _ => h⟩
theorem ad_in (he : edgesB ops = true) (h : AD P T ops (ixOps ops 0) st [] k) : cond (edgesB ops) (adrawK P T ops (ixOps ops 0) st [] k) False := by
  rw [he]; exact h.out
/-- Code that is still to be run; a wall that no computation goes through. -/
inductive EXW (P : Program) (T : Tab) (c : Code) (Q : APost) (st : ASt) : Prop
  | mk : ex P T c Q st → EXW P T c Q st
  | mk' : ex P T c Q st → EXW P T c Q st
theorem EXW.out {c : Code} {Q : APost} (h : EXW P T c Q st) : ex P T c Q st := by cases h <;> assumption
variable {Q : APost} {a b : Code}
theorem EXW_eq : EXW P T b Q = ex P T b Q := funext fun _ => propext ⟨EXW.out, EXW.mk⟩
theorem ex_wall (h : ex P T a (seqQ (EXW P T b Q) Q) st) : ex P T (.seq a b) Q st := by
  rw [EXW_eq] at h; exact h
theorem ex_sq (h : ex P T a (seqQ (ex P T b Q) Q) st) : ex P T (.seq a b) Q st := h
theorem ex_skipS {c : Code} {Q' : APost} (h : ex P T c Q st) : ex P T .skip (seqQ (ex P T c Q) Q') st := h
theorem ex_bl {n : Nat} (h : ex P T a (blockQ n Q) st) : ex P T (.block n a) Q st := h
theorem ex_drawn {id : Nat} {ops : Array Oper} (he : edgesB ops.toList = true) (h : AD P T ops.toList (ixOps ops.toList 0) st [] fun acc s => pairR ops.toList acc = true ∧ Q .normal s) :
    ex P T (.region id ops true) Q st := ad_in he h
end
end Go.AM

namespace Go.AM
open Go Go.RowKit

/-- What lies beside while the call runs: its deferred closure. -/
def XD (v : AV) : Ext := { X0 with gs := fun t => bif Nat.beq t 0 then some v else none, inR := true }
/-- While the closure runs: the call's variables. -/
def XR (s : Nat → Option AV) : Ext := { X0 with gs := s, inR := true }

/-- The closure, run on what the call has left; v is what recover gives. -/
def recK (P : Program) (T : Tab) (cg : Code) (ng nc : Nat) (caps : Nat → AV) (d1 d2 : Nat) (v : AV) (st : ASt) (k : (Nat → Option AV) → Heap → List Nat → Prop) : Prop :=
  ex P T cg (fun e s => match e with
    | .normal => s.x.inR = true ∧ k s.x.gs s.heap s.used
    | .ret => s.x.inR = true ∧ k s.x.gs s.heap s.used
    | _ => False) ⟨ng, updF (updF (argS (getRange nc caps) 0) d1 v) d2 v, st.heap, st.used, XR st.slots⟩

def recF (P : Program) (T : Tab) (rs : List ResultVar) (cg : Code) (ng nc d1 d2 : Nat) (g : FuncId) (post : AV → List (Nat × AO) → Prop) (v : AV) (st : ASt) : Prop :=
  st.x.inR = true ∧ ∃ fs caps, st.x.gs 0 = some (.func (.func g) 0 fs nc caps) ∧ recK P T cg ng nc caps d1 d2 v st fun s H U =>
    finK T rs ⟨st.nt, s, H, U, X0⟩ fun l => ∃ r Hout, post r Hout ∧ SubS ⟨1, updF (fun _ => none) 0 (pack l), H, U, X0⟩ (mkSt 1 [(0, r)] Hout)

def recQ (P : Program) (T : Tab) (rs : List ResultVar) (cg : Code) (ng nc d1 d2 : Nat) (g : FuncId) (post : AV → List (Nat × AO) → Prop) : APost := fun e st =>
  match e with
  | .normal => ∃ st', SubS st st' ∧ recF P T rs cg ng nc d1 d2 g post (.pv .nilI) st'
  | .ret => ∃ st', SubS st st' ∧ recF P T rs cg ng nc d1 d2 g post (.pv .nilI) st'
  | .panic v => v.flatV = true ∧ ∃ st', SubS st st' ∧ recF P T rs cg ng nc d1 d2 g post v st'
  | _ => False

section
variable {P : Program} {K : Ctx} {C : Came} {φ φ' : Names} {M M' : Blocks} {H : Heap} {w w' : World} {T : Tab} {st : ASt} {a : Act}

theorem HeapCall.recover {f g : FuncId} {fn fg : Func} {c0 rest cg : Code} {i1 i2 : Nat} {mk : Oper} {d d1 d2 : Nat} {ts1 ts2 : Array TypeId} {ty1 ty2 ty3 : TypeId} {p1 p2 p3 : String} {af1 af2 af3 : Array Edge} {args : List AV} {Hin : List (Nat × AO)} {post : AV → List (Nat × AO) → Prop}
    (hT : T.ok P = true) (hmix : P.follows .mixedOrders = true) (hen : enters P f = true) (hf : P.funcs[f]? = some fn)
    (hb : fn.body = some (.seq c0 (.seq (.region i1 #[mk, ⟨none, .defer { callee := .value (.tmp d), args := #[], argTypes := ts1 }, ty1, p1, af1, none⟩] false) rest))) {n : Nat} (hn : fn.ntmps = n) {rs : List ResultVar} (hrs : fn.results.toList = rs) (hp0 : plain c0 = true) (hmk : mk.guard = none)
    (heng : enters P g = true) (hfg : P.funcs[g]? = some fg) (hbg : fg.body = some (.seq (.region i2 #[⟨some d1, .call { callee := .builtin .recover, args := #[], argTypes := ts2 }, ty2, p2, af2, none⟩, ⟨some d2, .assign (.tmp d1), ty3, p3, af3, none⟩] false) cg))
    {ng nc : Nat} (hng : fg.ntmps = ng) (hrg : fg.results = #[]) (hd1 : nc ≤ d1) (hd2 : nc ≤ d2) (hdn1 : d1 < ng) (hdn2 : d2 < ng) (hd12 : d1 ≠ d2)
    (h : ex P T c0 (fun e s => match e with
      | .normal => stepK P T (fun _ _ => False) mk s fun s1 => s1.x = X0 ∧ ∃ fs caps, s1.slots d = some (.func (.func g) 0 fs nc caps) ∧ ex P T rest (recQ P T rs cg ng nc d1 d2 g post) { s1 with x := XD (.func (.func g) 0 fs nc caps) }
      | _ => False) (stH n args Hin)) : HeapCall P f args Hin post := by
  refine ⟨hen, fun φ M N w xs hm he ha => calls_body hf hb ?_⟩
  obtain ⟨C, hC⟩ : ∃ C : Came, C = ⟨w, ownOf φ (lookL Hin), M, N⟩ := ⟨_, rfl⟩
  have henv : EnvOK P C := by rw [hC]; exact he.ok (fun b hb => hm.notown hb)
  rw [← hC] at hm ⊢
  have hK : (KH C).ok P := ⟨fun _ _ C' h => by obtain rfl : C' = _ := h; exact henv, fun l h => by cases h⟩
  have hgood : Good (KH C) φ M (stH n args Hin) { tmps := xs ++ Array.replicate (n - xs.size) undef, defers := [] } w :=
    { slots := fun t v ht => by
        obtain ⟨h1, h2, h3⟩ := argS_get _ _ _ _ ht
        have hlt : t < args.length := by omega
        refine ⟨xs.getD t undef, ?_, by rw [← h3]; exact ha.2 t hlt⟩
        have : t < xs.size := by rw [ha.1]; exact hlt
        simp [Array.getElem?_append, this, Array.getD_eq_getD_getElem?]
      gslots := fun t v ht => (by cases ht), nms := fun _ _ _ h => (by cases h), mem := ⟨_, rfl, hm, [], rfl, List.nodup_nil, fun d hd => (by cases hd)⟩, wide := (by simp [stH]; omega), yl := rfl, valid := rfl, inr := fun h => (by cases h), rdd := fun _ => rfl }
  rw [hn]
  refine wpIn_seq (wpIn_mono (ex_soundM hT c0 _ _ hp0 h _ _ _ _ _ hK hgood) ?_)
  rintro e a1 w1 ⟨s1, φ1, M1, hg1, ⟨_, hdf1⟩, hq1⟩
  cases e with
  | exit i => exact hq1.elim
  | ret => exact hq1.elim
  | panic ch => obtain ⟨_, _, _, _, hf⟩ := hq1; exact hf.elim
  | goto l => exact hq1.elim
  | outgrown => exact hq1.elim
  | normal =>
  have hdf1 : a1.defers = [] := hdf1
  refine wpIn_seq (wpIn_region ?_)
  show wpOpsIn (fen none) 0 P #[mk, _] _ [0, 1] a1 w1
  rw [wpOpsIn]
  simp only [List.getElem?_toArray, List.getElem?_cons_zero]
  rw [if_pos (by simp [Region.wanted, hmk])]
  refine stepK_sound hT hK (fun _ _ _ _ _ _ _ _ _ _ _ h => h.elim) hg1 hq1 ?_
  rintro s2 φ2 M2 a2 w2 hda hmo hg2 ⟨hx2, fs, caps, hs2, hrest⟩
  have hda : a2.defers = [] := hda.trans hdf1
  rw [wpOpsIn]
  simp only [List.getElem?_toArray, List.getElem?_cons_succ, List.getElem?_cons_zero]
  rw [if_pos (by simp [Region.wanted])]
  obtain ⟨Y, hY, hrY⟩ := hg2.slots d _ hs2
  obtain ⟨ys, hYe, hysz, hysr⟩ : ∃ ys, Y = .func (.func g) #[] ys ∧ ys.size = nc ∧ ∀ i, i < nc → Ra φ2 w2 M2 (caps i) (ys.getD i undef) := by
    cases hrY with
    | func _ _ _ _ _ us ys hu hy _ hc =>
      have : us = #[] := by simpa using hu
      subst this
      exact ⟨ys, rfl, hy, hc⟩
  have hev : a2.eval (.tmp d) = Y := by simp [Act.eval, hY, Array.getD_eq_getD_getElem?]
  obtain ⟨dd, hdd⟩ : ∃ dd : Deferred, dd = { target := .fn (.func g) ys, args := #[] } := ⟨_, rfl⟩
  refine ⟨fun _ _ => trivial, ?_⟩
  have hexec : ∀ ty p af, (Oper.semAt (fen none).round a2.eval ⟨none, .defer { callee := .value (.tmp d), args := #[], argTypes := ts1 }, ty, p, af, none⟩).run P w2 = .ok (.defer dd) w2 := fun ty p af => by
    show (execOp a2.eval ⟨none, .defer { callee := .value (.tmp d), args := #[], argTypes := ts1 }, ty, p, af, none⟩).run P w2 = _
    simp [execOp, resolve, hev, hYe, Deferred.ofValue, hdd]
  rw [hexec, Oper.uponIn_defer]
  show rest.wpIn (fen none) 0 P _ { a2 with defers := dd :: a2.defers } w2
  obtain ⟨K1, hK1⟩ : ∃ K1 : Ctx, K1 = { KH C with ds := [dd], ghost := fun t => if t = 0 then some Y else none } := ⟨_, rfl⟩
  have hK1ok : K1.ok P := by subst hK1; exact ⟨fun _ _ C' h => by obtain rfl : C' = _ := h; exact henv, fun l h => by cases h⟩
  have hg3 : Good K1 φ2 M2 { s2 with x := XD (.func (.func g) 0 fs nc caps) } { a2 with defers := dd :: a2.defers } w2 := by
    obtain ⟨C2, hC2, hm2, _⟩ := hg2.mem
    have hC2 : C2 = C := hC2
    subst hC2; subst hK1
    refine { slots := hg2.slots, nms := fun _ _ _ h => (by cases h), gslots := fun t v ht => ?_, mem := ⟨_, rfl, hm2, [], by rw [hda]; rfl, List.nodup_nil, fun d hd => (by cases hd)⟩, wide := hg2.wide, yl := rfl, valid := rfl, inr := fun h => (by cases h), rdd := fun _ => by rw [hda] }
    have ht0 : t = 0 := by
      replace ht : (bif Nat.beq t 0 then some (AV.func (.func g) 0 fs nc caps) else none) = some v := ht
      cases hb : Nat.beq t 0 with
      | true => exact Nat.eq_of_beq_eq_true hb
      | false => rw [hb] at ht; cases ht
    subst ht0
    obtain rfl : AV.func (.func g) 0 fs nc caps = v := Option.some.inj ht
    exact ⟨Y, rfl, hrY⟩
  refine wpIn_mono (F := fen none) (by have := ex_sound hT hmix _ _ _ hrest K1 φ2 M2 _ w2 hK1ok hg3; rw [hK1] at this; exact this) ?_
  rintro e a3 w3 ⟨s30, φ30, M30, hg40, hq4⟩
  rw [← hK1] at hg40
  -- the closure, whatever recover gives
  have fin : ∀ (u : FrameMode) (v : AV) (x : Value) (s3 : ASt), u ≠ .run → v.flatV = true → Ra φ30 w3 M30 v x → SubS s30 s3 →
      (∀ (c₀ : Frame) (cs : List Frame), c₀.mode = u → ∃ u', settle u' = .returning ∧ ((recoverD (c₀ :: cs) = some (x, { c₀ with mode := u' } :: cs)) ∨ (recoverD (c₀ :: cs) = none ∧ x = .nilIface ∧ u' = u))) →
      recF P T rs cg ng nc d1 d2 g post v s3 → LeavesInM (fen none) 0 P fn a3.tmps (fun e w' =>
        ∃ x r Hout φ' M', e = .returned x ∧ post r Hout ∧ Mem C φ' M' (lookL Hout) (keysL Hout) w' ∧ Ra φ' w' M' r x) a3.defers u w3 := by
    rintro u v x s3 hu hfl hrv0 hsub hrec ⟨hin, fs', caps', hgs, hk⟩
    obtain ⟨φ3, M3, hg4⟩ := hsub _ _ _ _ _ hg40
    have hrv : Ra φ3 w3 M3 v x := AV.flatV_any hrv0 hfl _ _ _
    have hdef : a3.defers = [dd] := by have := hg4.rdd hin; rw [hK1] at this; exact this
    obtain ⟨Y', hY', hrY'⟩ := hg4.gslots 0 _ hgs
    have hYY : Y' = Y := by rw [hK1] at hY'; exact (Option.some.inj hY').symm
    subst hYY
    rw [hYe] at hrY'
    have hcap : ∀ i, i < nc → Ra φ3 w3 M3 (caps' i) (ys.getD i undef) := by
      cases hrY' with | func _ _ _ _ _ _ _ _ _ _ hc => exact hc
    rw [hdef]
    refine ⟨hu, .inr ⟨fun h => absurd h (by simp [fen, Fence.wide]), .func g, ys, g, ys, by rw [hdd], ?_, fun _ _ => trivial, ?_⟩⟩
    · have := run_callFunc (P := P) w3 (args := ys) heng
      rw [hdd]
      simpa [invoke] using this
    · refine callsDIn_of_wpSIn (F := fen none) (n := 0 - 1) hfg hbg trivial fun c₀ cs hc0 => ?_
      obtain ⟨u', hset, hrd⟩ := hrec c₀ cs hc0
      rw [hng]
      obtain ⟨a0, ha0⟩ : ∃ a0 : Act, a0 = { tmps := ys ++ Array.replicate (ng - ys.size) undef, defers := [] } := ⟨_, rfl⟩
      rw [← ha0]
      have hsz0 : a0.tmps.size = ng := by rw [ha0]; simp; omega
      -- behind the first region
      have hcg : cg.wpSIn (fen none) (0 - 1) P (bodyPostS P fg c₀ cs fun
          | .returned _, u', w' => LeavesInM (fen none) 0 P fn a3.tmps (fun e w' => ∃ x r Hout φ' M', e = .returned x ∧ post r Hout ∧ Mem C φ' M' (lookL Hout) (keysL Hout) w' ∧ Ra φ' w' M' r x) [] (settle u') w'
          | .panicked chain, u', w' => LeavesInM (fen none) 0 P fn a3.tmps (fun e w' => ∃ x r Hout φ' M', e = .returned x ∧ post r Hout ∧ Mem C φ' M' (lookL Hout) (keysL Hout) w' ∧ Ra φ' w' M' r x) [] (raised u' chain) w'
          | .outgrown, _, w' => ∃ x r Hout φ' M', Ending.outgrown = .returned x ∧ post r Hout ∧ Mem C φ' M' (lookL Hout) (keysL Hout) w' ∧ Ra φ' w' M' r x) ((a0.put (some d1) x).put (some d2) x) ({ c₀ with mode := u' } :: cs) w3 := by
        refine wpSIn_of_wpIn rfl ?_
        obtain ⟨K2, hK2⟩ : ∃ K2 : Ctx, K2 = { KH C with ghost := fun t => a3.tmps[t]? } := ⟨_, rfl⟩
        have hK2ok : K2.ok P := by subst hK2; exact ⟨fun _ _ C' h => by obtain rfl : C' = _ := h; exact henv, fun l h => by cases h⟩
        have hg5 : Good K2 φ3 M3 ⟨ng, updF (updF (argS (getRange nc caps') 0) d1 v) d2 v, s3.heap, s3.used, XR s3.slots⟩ ((a0.put (some d1) x).put (some d2) x) w3 := by
          obtain ⟨C3, hC3, hm3, _⟩ := hg4.mem
          have hC3 : C3 = C := by rw [hK1] at hC3; exact hC3
          subst hC3; subst hK2
          refine { slots := fun t z ht => ?_, nms := fun _ _ _ h => (by cases h), gslots := hg4.slots, mem := ⟨_, rfl, hm3, [], by rw [ha0]; rfl, List.nodup_nil, fun d hd => (by cases hd)⟩, wide := by simp [Act.put, hsz0], yl := rfl, valid := rfl, inr := fun h => (by cases h), rdd := fun _ => by rw [ha0]; rfl }
          replace ht : updF (updF (argS (getRange nc caps') 0) d1 v) d2 v t = some z := ht
          simp only [Act.put]
          by_cases e2 : t = d2
          · subst e2; rw [updF_same] at ht; obtain rfl := Option.some.inj ht
            exact ⟨x, by rw [Array.getElem?_setIfInBounds]; simp [hsz0, hdn2], hrv⟩
          · rw [updF_ne _ _ e2] at ht
            by_cases e1 : t = d1
            · subst e1; rw [updF_same] at ht; obtain rfl := Option.some.inj ht
              exact ⟨x, by rw [Array.getElem?_setIfInBounds, if_neg (fun e => e2 e.symm), Array.getElem?_setIfInBounds]; simp [hsz0, hdn1], hrv⟩
            · rw [updF_ne _ _ e1] at ht
              obtain ⟨h1, h2, h3⟩ := argS_get _ _ _ _ ht
              have hlt : t < nc := by simpa [getRange] using h2
              refine ⟨ys.getD t undef, ?_, ?_⟩
              · rw [Array.getElem?_setIfInBounds, if_neg (fun e => e2 e.symm), Array.getElem?_setIfInBounds, if_neg (fun e => e1 e.symm), ha0]
                have : t < ys.size := by omega
                simp [Array.getElem?_append, this, Array.getD_eq_getD_getElem?]
              · rw [← h3]
                have := hcap t hlt
                rw [show getL (getRange nc caps') (t - 0) = caps' t from getL_range _ hlt]
                exact this
        have hrun := ex_sound hT hmix _ _ _ hk K2 φ3 M3 _ w3 hK2ok hg5
        rw [show K2.rd = none by rw [hK2]; rfl] at hrun
        refine wpIn_mono (F := fen none) hrun ?_
        rintro e a5 w5 ⟨s5, φ5, M5, hg6, hq6⟩
        have fin2 : s5.x.inR = true ∧ (finK T rs ⟨s3.nt, s5.x.gs, s5.heap, s5.used, X0⟩ fun l => ∃ r Hout, post r Hout ∧ SubS ⟨1, updF (fun _ => none) 0 (pack l), s5.heap, s5.used, X0⟩ (mkSt 1 [(0, r)] Hout)) →
            a5.defers = [] ∧ ∃ u'', ({ c₀ with mode := u' } :: cs) = ({ c₀ with mode := u'' } :: cs) ∧ ∃ v, (results fg a5.tmps).run P w5 = .ok v w5 ∧ LeavesInM (fen none) 0 P fn a3.tmps (fun e w' => ∃ x r Hout φ' M', e = .returned x ∧ post r Hout ∧ Mem C φ' M' (lookL Hout) (keysL Hout) w' ∧ Ra φ' w' M' r x) [] (settle u'') w5 := by
          rintro ⟨hin5, hfk⟩
          refine ⟨by have := hg6.rdd hin5; rw [hK2] at this; exact this, u', rfl, .tuple #[], by simp [results, hrg], ?_⟩
          rw [hset]
          obtain ⟨C5, hC5, hm5, _⟩ := hg6.mem
          have hC5 : C5 = C := by rw [hK2] at hC5; exact hC5
          subst hC5
          have hg7 : Good (KH C5) φ5 M5 ⟨s3.nt, s5.x.gs, s5.heap, s5.used, X0⟩ { tmps := a3.tmps, defers := [] } w5 :=
            { slots := fun t z ht => by have := hg6.gslots t z ht; rw [hK2] at this; exact this
              gslots := fun t v ht => (by cases ht), nms := fun _ _ _ h => (by cases h), mem := ⟨_, rfl, hm5, [], rfl, List.nodup_nil, fun d hd => (by cases hd)⟩, wide := hg4.wide, yl := rfl, valid := rfl, inr := fun h => (by cases h), rdd := fun _ => rfl }
          obtain ⟨l, zs, ⟨r, Hout, hpost, hsub⟩, h1, h2, h3, h4⟩ := finK_sound hT hg7 _ _ hfk
          obtain ⟨y, hy, hr⟩ := results_of (a := { tmps := a3.tmps, defers := [] }) hrs h1 h2 h3 h4
          have hg8 : Good (KH C5) φ5 M5 ⟨1, updF (fun _ => none) 0 (pack l), s5.heap, s5.used, X0⟩ { tmps := #[y], defers := [] } w5 :=
            { slots := fun t v ht => by
                by_cases he : t = 0
                · subst he
                  replace ht : updF (fun _ => none) 0 (pack l) 0 = some v := ht
                  rw [updF_same] at ht
                  obtain rfl := Option.some.inj ht
                  exact ⟨y, rfl, hr⟩
                · replace ht : updF (fun _ => none) 0 (pack l) t = some v := ht
                  rw [updF_ne _ _ he] at ht; cases ht
              gslots := fun t v ht => (by cases ht), nms := fun _ _ _ h => (by cases h), mem := ⟨_, rfl, hm5, [], rfl, List.nodup_nil, fun d hd => (by cases hd)⟩, wide := Nat.le_refl _, yl := rfl, valid := rfl, inr := fun h => (by cases h), rdd := fun _ => rfl }
          obtain ⟨φ9, M9, hg9⟩ := hsub _ _ _ _ _ hg8
          obtain ⟨y', hy', hry⟩ := hg9.slots 0 r rfl
          have : y' = y := by simpa using hy'.symm
          subst this
          obtain ⟨C9, hC9, hm9, _⟩ := hg9.mem
          have hC9 : C9 = C5 := hC9
          subst hC9
          exact ⟨y', hy, y', r, Hout, φ9, M9, rfl, hpost, hm9, hry⟩
        cases e with
        | normal => exact fin2 hq6
        | ret => exact fin2 hq6
        | exit i => exact hq6.elim
        | panic ch => obtain ⟨_, _, _, _, hf⟩ := hq6; exact hf.elim
        | goto l => exact hq6.elim
        | outgrown => exact hq6.elim
      refine wpSIn_seq (wpSIn_region ?_)
      show wpOpsSIn (fen none) (0 - 1) P _ _ [0, 1] a0 (c₀ :: cs) w3
      have hassign : ∀ (z : Value), a0.tmps.size = ng → ((a0.put (some d1) z).eval (.tmp d1)) = z := fun z hz => by
        simp [Act.put, Act.eval, Array.getD_eq_getD_getElem?, hz, hdn1]
      simp only [wpOpsSIn, List.getElem?_toArray, List.getElem?_cons_zero, List.getElem?_cons_succ]
      refine ⟨fun _ _ => trivial, ?_⟩
      rw [if_pos (by simp [Region.wanted])]
      have hro : ∀ ty p af, (execOp a0.eval ⟨some d1, .call { callee := .builtin .recover, args := #[], argTypes := ts2 }, ty, p, af, none⟩).run P w3 = .ok .recover w3 := fun ty p af => by
        simp [execOp, resolve, invoke, builtin]
      rw [hro]
      have go : ∀ (cs' : List Frame) (z : Value), z = x → cs' = { c₀ with mode := u' } :: cs → (execOp (a0.put (some d1) z).eval (⟨some d2, .assign (.tmp d1), ty3, p3, af3, none⟩ : Oper)).run P w3 = .ok (.value x) w3 := by
        intro cs' z hz hcs
        subst hz
        simp [execOp, hassign _ hsz0]
      rcases hrd with hrd | ⟨hrd, rfl, rfl⟩
      · rw [hrd]
        refine ⟨fun _ _ => trivial, ?_⟩
        rw [if_pos (by simp [Region.wanted]), go _ x rfl rfl]
        exact hcg
      · rw [hrd]
        refine ⟨fun _ _ => trivial, ?_⟩
        have hcc : ({ c₀ with mode := u' } : Frame) = c₀ := by subst hc0; rfl
        rw [if_pos (by simp [Region.wanted]), go (c₀ :: cs) .nilIface rfl (by rw [hcc])]
        rw [hcc] at hcg
        exact hcg
  cases e with
  | exit i => exact hq4.elim
  | goto l => exact hq4.elim
  | outgrown => exact hq4.elim
  | normal => obtain ⟨s3, hsub, hq4⟩ := hq4; exact fin .returning (.pv .nilI) .nilIface s3 (by simp) rfl (.pv _ _ .nilI) hsub (fun c₀ cs hc => ⟨.returning, rfl, .inr ⟨by simp [recoverD, hc], rfl, rfl⟩⟩) hq4
  | ret => obtain ⟨s3, hsub, hq4⟩ := hq4; exact fin .returning (.pv .nilI) .nilIface s3 (by simp) rfl (.pv _ _ .nilI) hsub (fun c₀ cs hc => ⟨.returning, rfl, .inr ⟨by simp [recoverD, hc], rfl, rfl⟩⟩) hq4
  | panic ch =>
    obtain ⟨v, x, rfl, hrv, hfl, s3, hsub, hq4⟩ := hq4
    exact fin (.panicking [{ v := x, recovered := false }]) v x s3 (by simp) hfl hrv hsub (fun c₀ cs hc => ⟨.panicking [{ v := x, recovered := true }], by simp [settle], .inl (by simp [recoverD, hc])⟩) hq4

/-- A call that is given nothing that may be written, and hands back nothing such. -/
theorem HeapCall.pure {f : FuncId} {args : List AV} {r0 : AV} (h : HeapCall P f args [] fun r Hout => r = r0 ∧ Hout = []) : PureCall P f args r0 := by
  refine ⟨h.1, fun w M xs hM he ha => ?_⟩
  have hm : Mem ⟨w, ownOf noNames (lookL []), M, fun _ => False⟩ noNames M (lookL []) (keysL ([] : List (Nat × AO))) w :=
    { heap := { own := fun id o h => (by simp [lookL] at h), inj := fun _ _ _ _ _ h => (by simp [lookL] at h), last := fun _ _ _ _ h => (by simp [lookL] at h), mlt := hM }, used := fun _ _ _ h => (by simp [noNames] at h), dom := fun _ _ h => (by simp [lookL] at h), os := rfl, tape := rfl, output := rfl, size := Nat.le_refl _, frame := fun _ _ _ => rfl, fresh := fun _ _ _ h => (by simp [lookL] at h), reads := fun _ h => .inl h, keeps := fun _ h => h, sizes := fun _ => Nat.le_refl _, nlt := fun _ _ _ h => (by simp [noNames] at h), far := ⟨fun _ _ h => h, fun _ h => h.elim⟩ }
  refine (h.2 noNames M (fun _ => False) w xs hm he ha).mono fun e w' hq => ?_
  obtain ⟨x, r, Hout, φ', M', rfl, ⟨rfl, rfl⟩, hm', hr⟩ := hq
  have hno : φ' = noNames := by
    funext i g
    cases hc : φ' i g with
    | none => rfl
    | some b => have := hm'.used i g b hc; simp [keysL] at this
  subst hno
  have hown : ∀ b, ¬ ownOf noNames (lookL ([] : List (Nat × AO))) b := by rintro b ⟨id, o, h1, _⟩; simp [lookL] at h1
  refine ⟨x, rfl, hm'.os, hm'.tape, hm'.output, hm'.size, fun b hb => hm'.frame b hb (hown b), ?_⟩
  refine hr.mono (fun _ _ _ h => h) (fun b hb => ?_) (fun _ _ => rfl) (fun _ => Nat.le_refl _)
  rcases hm'.reads b hb with h | h | h
  · exact .inl h
  · exact (hown b h).elim
  · exact .inr ⟨h, hm'.heap.mlt b hb⟩

end
end Go.AM

namespace Go.AM
open Go Go.RowKit

/-- What may come next. -/
def readyL (ops : List Oper) (acc : List Nat) : List Nat :=
  (List.range ops.length).filter fun i => !memN i acc && (match ops[i]? with
    | some o => o.after.toList.all fun e => !Region.binds .any e || memN e.on acc
    | none => false)
def ordsGo (ops : List Oper) : Nat → List Nat → List (List Nat)
  | 0, acc => [acc.reverse]
  | n + 1, acc =>
    match readyL ops acc with
    | [] => [acc.reverse]
    | i :: rs => (i :: rs).flatMap fun i => ordsGo ops n (i :: acc)
def allP {α : Type} (p : α → Prop) : List α → Prop
  | [] => True
  | [x] => p x
  | x :: l => p x ∧ allP p l
theorem allP_get {α : Type} {p : α → Prop} : ∀ {l : List α}, allP p l → ∀ x ∈ l, p x := by
  intro l
  induction l with
  | nil => intro _ x hx; simp at hx
  | cons y l ih =>
    intro h x hx
    cases l with
    | nil =>
      rw [List.mem_singleton] at hx
      subst hx; exact h
    | cons z l =>
      rcases List.mem_cons.mp hx with rfl | hx
      · exact h.1
      · exact ih h.2 x hx

section
variable {P : Program} {T : Tab} {st : ASt} {Q : APost}

theorem linearise_mem (ops : Array Oper) : ∀ (n t : Nat) (listed : Array Bool) (acc : List Nat), listed.size = ops.size → (∀ i, i < ops.size → listed.getD i true = memN i acc) → (∀ i ∈ acc, i < ops.size) →
    Region.linearise.go .any ops n t listed acc ∈ ordsGo ops.toList n acc := by
  intro n
  induction n with
  | zero => intro t listed acc _ _ _; simp [Region.linearise.go, ordsGo]
  | succ n ih =>
    intro t listed acc hs hl ha
    have hrs : ((List.range ops.size).filter fun i => !listed.getD i true && ((ops[i]?).map (·.after.all fun e => !Region.binds .any e || listed.getD e.on false)).getD false) = readyL ops.toList acc := by
      unfold readyL
      simp only [Array.length_toList]
      apply List.filter_congr
      intro i hi
      have hi' : i < ops.size := List.mem_range.mp hi
      rw [hl i hi']
      congr 1
      rw [Array.getElem?_toList]
      cases ho : ops[i]? with
      | none => rfl
      | some o =>
        simp only [Option.map_some, Option.getD_some]
        rw [← Array.all_toList]
        congr 1
        funext e
        congr 1
        by_cases he : e.on < ops.size
        · rw [← hl e.on he]
          have : e.on < listed.size := by omega
          simp [Array.getD_eq_getD_getElem?, this]
        · have h1 : memN e.on acc = false := by
            cases hc : memN e.on acc with
            | true => exact absurd (ha _ (memN_iff.mp hc)) he
            | false => rfl
          rw [h1]
          have : ¬ e.on < listed.size := by omega
          simp [Array.getD_eq_getD_getElem?, this]
    simp only [Region.linearise.go]
    rw [hrs]
    simp only [ordsGo]
    generalize hR : readyL ops.toList acc = R
    have hin : ∀ i ∈ R, i < ops.size := fun i hi => by
      rw [← hR] at hi
      simp only [readyL, List.mem_filter, List.mem_range, Array.length_toList] at hi
      exact hi.1
    cases R with
    | nil => simp
    | cons j R =>
      simp only
      have hlt : t % (j :: R).length < (j :: R).length := Nat.mod_lt _ (by simp)
      rw [List.getElem?_eq_getElem hlt]
      simp only
      have hmem : (j :: R)[t % (j :: R).length] ∈ j :: R := List.getElem_mem hlt
      generalize (j :: R)[t % (j :: R).length] = i at hmem
      have hi := hin i hmem
      refine List.mem_flatMap.mpr ⟨i, hmem, ih _ _ _ (by simpa using hs) (fun m hm => ?_) (fun m hm => ?_)⟩
      · simp only [Array.getD_eq_getD_getElem?, Array.getElem?_setIfInBounds]
        by_cases h : i = m
        · subst h; simp [memN, hs, hi]
        · rw [if_neg h]
          have := hl m hm
          simp only [Array.getD_eq_getD_getElem?] at this
          rw [this]
          have hb : Nat.beq m i = false := beqN_ne (fun e => h e.symm)
          simp [memN, hb]
      · rcases List.mem_cons.mp hm with rfl | hm
        · exact hi
        · exact ha m hm

/-- Every order that may be drawn. -/
theorem awp_orders (hT : T.ok P = true) (hmix : P.follows .mixedOrders = true) {id : Nat} {ops : Array Oper} {L : List (List Nat)} (hL : ordsGo ops.toList ops.toList.length [] = L) (h : allP (fun l => aops P T ops.toList Q l st) L) : AWP P (.region id ops true) Q st := by
  intro K φ M a w hK hg
  refine wpIn_mono (wpIn_region_draw (Q := QCM K φ M { w with drawn := w.drawn + 1 } a.defers Q) fun t => ?_) fun _ _ _ => QCM.qc
  have hg' : Good K φ M st a { w with drawn := w.drawn + 1 } := { slots := fun t v ht => by obtain ⟨x, hx, hr⟩ := hg.slots t v ht; exact ⟨x, hx, hr.drawn _⟩, gslots := fun t v ht => by obtain ⟨x, hx, hr⟩ := hg.gslots t v ht; exact ⟨x, hx, hr.drawn _⟩, nms := hg.nms, mem := by obtain ⟨C, h1, h2, h3⟩ := hg.mem; exact ⟨C, h1, h2.drawn _, h3⟩, wide := hg.wide, yl := hg.yl, valid := hg.valid, inr := hg.inr, rdd := hg.rdd }
  have hm : Region.schedule (P.follows .mixedOrders) ops t ∈ L := by
    rw [← hL]
    unfold Region.schedule
    rw [hmix]
    simp only [Bool.true_or, if_true]
    unfold Region.linearise
    have := linearise_mem ops ops.size t (Array.replicate ops.size false) [] (by simp) (fun i hi => by simp [Array.getD_eq_getD_getElem?, hi, memN]) (fun i hi => by simp at hi)
    simpa using this
  exact aops_sound hT hK _ st φ M a _ rfl (Mono.refl _ _ _) hg' (allP_get h _ hm)

/-- A piece, and what goes on behind it. -/
theorem awp_piece (hT : T.ok P = true) (hmix : P.follows .mixedOrders = true) {x y : Code} (h : ex P T x (seqQ (AWP P y Q) Q) st) : AWP P (.seq x y) Q st := awp_seq (ex_sound hT hmix _ _ _ h)
theorem awp_last (hT : T.ok P = true) (hmix : P.follows .mixedOrders = true) {x : Code} (h : ex P T x Q st) : AWP P x Q st := ex_sound hT hmix _ _ _ h
end
end Go.AM

namespace Go.AM
open Go Go.RowKit

/-- Names that are kept. -/
def XK (kp : List Nat) : Ext := { X0 with kp := kp }
def mkStK (n : Nat) (s : List (Nat × AV)) (h : List (Nat × AO)) (kp : List Nat) : ASt := mkStX n s h (XK kp)
def stHK (n : Nat) (args : List AV) (Hin : List (Nat × AO)) : ASt := ⟨n, argS args 0, lookL Hin, keysL Hin, XK (keysL Hin)⟩

theorem keysL_look {α : Type} {l : List (Nat × α)} {i : Nat} (h : memN i (keysL l) = true) : ∃ v, lookL l i = some v := by
  induction l with
  | nil => simp [keysL, memN] at h
  | cons q l ih =>
    obtain ⟨t, v⟩ := q
    simp only [keysL, memN, Bool.or_eq_true] at h
    simp only [lookL]
    cases hb : Nat.beq i t with
    | true => exact ⟨v, rfl⟩
    | false => rcases h with h | h; (rw [hb] at h; cases h); exact ih h
theorem idR_self {α : Type} {U : List Nat} {l : List (Nat × α)} {i : Nat} (hu : memN i U = true) (hk : memN i (keysL l) = true) : lookL (idR U l) i = some i := by
  induction l with
  | nil => simp [keysL, memN] at hk
  | cons q l ih =>
    obtain ⟨t, v⟩ := q
    simp only [keysL, memN, Bool.or_eq_true] at hk
    simp only [idR]
    cases hb : Nat.beq i t with
    | true =>
      obtain rfl := Nat.eq_of_beq_eq_true hb
      rw [hu]; simp [lookL]
    | false =>
      have := ih (hk.resolve_left (by rw [hb]; simp))
      cases hc : memN t U with
      | true => simp only [cond_true, lookL, hb, cond_false]; exact this
      | false => exact this

/-- Weaker states under kept names. -/
theorem SubS.mkK {st : ASt} {n : Nat} {s : List (Nat × AV)} {h : List (Nat × AO)} {kp : List Nat} (B : List Nat) (hn : n = st.nt) (hs : AllS st B (idR st.used h) s) (hh : AllH st B (idR st.used h) h)
    (hk : (kp.all fun i => memN i st.used && memN i (keysL h)) = true := by rfl) (hx : st.x = XK kp := by rfl) : SubS st (mkStK n s h kp) :=
  SubS.mkX B hn hs hh ⟨by rw [hx], by rw [hx], by rw [hx], by rw [hx], by rw [hx], by rw [hx], by
    simp only [XK, List.all_eq_true, Bool.and_eq_true] at hk ⊢
    intro i hi
    rw [idR_self (hk i hi).1 (hk i hi).2]
    simp, fun t v' ht => by cases ht⟩
theorem SubS.mkNK {st : ASt} {n : Nat} {s : List (Nat × AV)} {h : List (Nat × AO)} {kp : List Nat} (B : List Nat) (U : List (Nat × Nat)) (hi : injR U = true) (hkk : keysIn U (keysL h) = true) (hn : n = st.nt) (hs : AllS st B U s) (hh : AllH st B U h)
    (hk : (kp.all fun i => match lookL U i with | some j => Nat.beq j i | none => false) = true := by rfl) (hx : st.x = XK kp := by rfl) : SubS st (mkStK n s h kp) :=
  SubS.mkRX B U (injR_out hi) (fun _ _ h => keysIn_out hkk h) hn hs hh ⟨by rw [hx], by rw [hx], by rw [hx], by rw [hx], by rw [hx], by rw [hx], hk, fun t v' ht => by cases ht⟩

/-- f is called with these; the rows Hin may be written and keep their names. -/
def HeapCallK (P : Program) (f : FuncId) (args : List AV) (Hin : List (Nat × AO)) (post postP : AV → List (Nat × AO) → Prop) : Prop :=
  enters P f = true ∧ ∀ (φ : Names) (M N : Blocks) (w : World) (xs : Array Value), Mem ⟨w, ownOf φ (lookL Hin), M, N⟩ φ M (lookL Hin) (keysL Hin) w → EnvM P w M → ArgsAre φ w M args xs → Calls P f xs w fun e w' =>
    ∃ x r Hout φ' M', ((e = .returned x ∧ post r Hout) ∨ (e = .panicked [{ v := x, recovered := false }] ∧ postP r Hout)) ∧ Mem ⟨w, ownOf φ (lookL Hin), M, N⟩ φ' M' (lookL Hout) (keysL Hout) w' ∧ Ra φ' w' M' r x ∧
      ∀ i g b, memN i (keysL Hin) = true → φ i g = some b → φ' i g = some b

def finHK (T : Tab) (rs : List ResultVar) (kp : List Nat) (post postP : AV → List (Nat × AO) → Prop) : APost := fun e st =>
  match e with
  | .normal => finK T rs st fun l => ∃ r Hout, post r Hout ∧ SubS ⟨1, updF (fun _ => none) 0 (pack l), st.heap, st.used, XK kp⟩ (mkStK 1 [(0, r)] Hout kp)
  | .ret => finK T rs st fun l => ∃ r Hout, post r Hout ∧ SubS ⟨1, updF (fun _ => none) 0 (pack l), st.heap, st.used, XK kp⟩ (mkStK 1 [(0, r)] Hout kp)
  | .panic v => v.flatV = true ∧ ∃ r Hout, postP r Hout ∧ SubS ⟨1, updF (fun _ => none) 0 v, st.heap, st.used, XK kp⟩ (mkStK 1 [(0, r)] Hout kp)
  | _ => False

def AV.ren (ρ : Nat → Nat) : AV → AV
  | .row id gen sz off len => .row (ρ id) gen sz off len
  | .ptr id gen sz i off => .ptr (ρ id) gen sz i off
  | .agg n f => .agg n fun i => (f i).ren ρ
  | .tup n f => .tup n fun i => (f i).ren ρ
  | .func fn nf first nc caps => .func fn nf (fun i => (first i).ren ρ) nc (fun i => (caps i).ren ρ)
  | .obj id gen => .obj (ρ id) gen
  | .pv p => .pv p
  | .nilS => .nilS
  | .rptr n f => .rptr n f
  | .nilM => .nilM
def AO.ren (ρ : Nat → Nat) (o : AO) : AO := { o with f := fun i j => (o.f i j).ren ρ }
def swapL : List (Nat × Nat) → List (Nat × Nat)
  | [] => []
  | (i, j) :: l => (j, i) :: swapL l
def renI (U0 : List (Nat × Nat)) (n : Nat) (i : Nat) : Nat :=
  match lookL U0 i with
  | some j => j
  | none => i + n
def joinK (H : Heap) (B : List Nat) (U0 : List (Nat × Nat)) (n : Nat) (Hout : List (Nat × AO)) : Heap := fun i =>
  match lookL (swapL U0) i with
  | some i0 => (lookL Hout i0).map (AO.ren (renI U0 n))
  | none => bif Nat.ble n i then (match lookL U0 (i - n) with
    | some _ => none
    | none => (lookL Hout (i - n)).map (AO.ren (renI U0 n))) else dropH H B i

theorem swapL_mem {U : List (Nat × Nat)} {i j : Nat} : (i, j) ∈ swapL U ↔ (j, i) ∈ U := by
  induction U with
  | nil => simp [swapL]
  | cons q l ih =>
    obtain ⟨a, c⟩ := q
    simp only [swapL, List.mem_cons, ih, Prod.mk.injEq]
    exact ⟨fun h => h.imp (fun e => ⟨e.2, e.1⟩) id, fun h => h.imp (fun e => ⟨e.2, e.1⟩) id⟩
theorem swapL_look {U : List (Nat × Nat)} {i j : Nat} (h : injR U = true) (hm : (i, j) ∈ U) : lookL (swapL U) j = some i := by
  induction U with
  | nil => simp at hm
  | cons q l ih =>
    obtain ⟨a, c⟩ := q
    simp only [injR, Bool.and_eq_true, List.all_eq_true, Bool.not_eq_true'] at h
    simp only [swapL, lookL]
    rcases List.mem_cons.mp hm with he | hm
    · injection he with e1 e2; subst e1; subst e2; simp
    · have hne : Nat.beq j c = false := h.1 _ hm
      rw [hne]; exact ih h.2 hm
theorem swapL_swap : ∀ U : List (Nat × Nat), swapL (swapL U) = U
  | [] => rfl
  | (i, j) :: l => by simp [swapL, swapL_swap l]
theorem olds_none {U : List (Nat × Nat)} {i : Nat} (h : lookL (swapL U) i = none) : memN i (olds U) = false := by
  induction U with
  | nil => rfl
  | cons q l ih =>
    obtain ⟨a, c⟩ := q
    simp only [swapL, lookL] at h
    simp only [olds, memN, Bool.or_eq_false_iff]
    cases hb : Nat.beq i c with
    | true => rw [hb] at h; cases h
    | false => rw [hb] at h; exact ⟨rfl, ih h⟩

section
variable {P : Program} {K : Ctx} {C : Came} {φ φ' : Names} {M M' : Blocks} {H : Heap} {w w' : World} {T : Tab} {st : ASt} {a : Act}

theorem Ra.ren {ρ : Nat → Nat} (h : ∀ i g b, φ i g = some b → φ' (ρ i) g = some b) {v : AV} {x : Value} (hr : Ra φ w M v x) : Ra φ' w M (v.ren ρ) x := by
  induction hr with
  | pv p v h => exact .pv p v h
  | nilS => exact .nilS
  | row id gen sz off len b c h1 h2 h3 => exact .row _ gen sz off len b c (h _ _ _ h1) h2 h3
  | row0 id gen sz off a => exact .row0 _ gen sz off a
  | ptr id gen sz i off b h1 => exact .ptr _ gen sz i off b (h _ _ _ h1)
  | rptr n f b o g h1 h2 h3 h4 => exact .rptr n f b o g h1 h2 h3 h4
  | agg n f cs h1 h2 _ ih => exact .agg n _ cs h1 h2 ih
  | tup n f vs h1 _ ih => exact .tup n _ vs h1 ih
  | func fn nf first nc caps xs ys h1 h2 _ _ ih1 ih2 => exact .func fn nf _ nc _ xs ys h1 h2 ih1 ih2
  | mp id gen b h1 h2 => exact .mp _ gen b h1 (h _ _ _ h2)
  | it id b h1 => exact .it _ b (h _ _ _ h1)
  | nilM => exact .nilM
theorem ObjAt.ren {ρ : Nat → Nat} {o : AO} {q : Option Nat} (hR : ∀ v x, Ra φ w M v x → Ra φ' w M (v.ren ρ) x) (h : ObjAt φ w M o q) : ObjAt φ' w M (o.ren ρ) q := by
  obtain ⟨h0, b, B, h1, h2, h3, h4⟩ := h
  refine ⟨h0, b, B, h1, h2, h3, ?_⟩
  unfold ObjB at h4 ⊢
  split at h4
  · obtain ⟨g1, g2, g3, g5, g4⟩ := h4
    have hkey : ∀ i, i < o.E → (o.f i 0).ren ρ = o.f i 0 := fun i hi => by
      have k4 := (g4 i _ (Array.getElem?_eq_getElem (i := i) (by rw [g2]; exact hi))).2.2.2
      rcases hg : o.gen with _ | _ | g
      · rw [hg] at k4; obtain ⟨n, hn⟩ := k4; rw [hn]; rfl
      · rw [hg] at k4; obtain ⟨n, hn⟩ := k4; rw [hn]; rfl
      · rw [hg] at k4; exact k4.elim
    refine ⟨g1, g2, g3, fun i j hi hj he => ?_, fun i e he => ?_⟩
    · replace he : (o.f i 0).ren ρ = (o.f j 0).ren ρ := he
      rw [hkey i hi, hkey j hj] at he
      exact g5 i j hi hj he
    obtain ⟨k1, k2, k3, k4⟩ := g4 i e he
    refine ⟨k1, hR _ _ k2, hR _ _ k3, ?_⟩
    show KeyOk o.gen ((o.f i 0).ren ρ)
    rw [hkey i (by rw [← g2]; exact (Array.getElem?_eq_some_iff.mp he).1)]; exact k4
  · obtain ⟨g1, g2, g3, g4, g5, g6⟩ := h4
    refine ⟨g1, g2, g3, hR _ _ g4, fun i hi => ?_, fun m hm => ?_⟩
    · show (o.f i 1).ren ρ = _
      rw [g5 i hi]; rfl
    · replace hm : (o.f 1 0).ren ρ = .pv (.int .i64 m) := hm
      refine g6 m ?_
      cases hv : o.f 1 0 <;> rw [hv] at hm <;> first | exact hm | cases hm
  · exact h4.elim

theorem HeapCallK.body {f : FuncId} {fn : Func} {c : Code} {args : List AV} {Hin : List (Nat × AO)} {post postP : AV → List (Nat × AO) → Prop} (hT : T.ok P = true) (hen : enters P f = true) (hf : P.funcs[f]? = some fn) (hb : fn.body = some c) {n : Nat} (hn : fn.ntmps = n)
    {rs : List ResultVar} (hrs : fn.results.toList = rs) (h : AWP P c (finHK T rs (keysL Hin) post postP) (stHK n args Hin)) : HeapCallK P f args Hin post postP := by
  refine ⟨hen, fun φ M N w xs hm he ha => ?_⟩
  refine calls_body hf hb ?_
  obtain ⟨C, hC⟩ : ∃ C : Came, C = ⟨w, ownOf φ (lookL Hin), M, N⟩ := ⟨_, rfl⟩
  have henv : EnvOK P C := by rw [hC]; exact he.ok (fun b hb => hm.notown hb)
  rw [← hC] at hm ⊢
  obtain ⟨K, hK0⟩ : ∃ K : Ctx, K = { KH C with nm := fun i g => if memN i (keysL Hin) = true then φ i g else none } := ⟨_, rfl⟩
  have hK : K.ok P := by subst hK0; exact ⟨fun _ _ C' h => by obtain rfl : C' = _ := h; exact henv, fun l h => by cases h⟩
  have hgood : Good K φ M (stHK n args Hin) { tmps := xs ++ Array.replicate (n - xs.size) undef, defers := [] } w := by
    subst hK0
    refine { slots := fun t v ht => ?_, nms := fun i g b h => ?_, gslots := fun t v ht => (by cases ht), mem := ⟨_, rfl, hm, [], rfl, List.nodup_nil, fun d hd => (by cases hd)⟩, wide := (by simp [stHK]; omega), yl := rfl, valid := rfl, inr := fun h => (by cases h), rdd := fun _ => rfl }
    · obtain ⟨h1, h2, h3⟩ := argS_get _ _ _ _ ht
      have hlt : t < args.length := by omega
      refine ⟨xs.getD t undef, ?_, by rw [← h3]; exact ha.2 t hlt⟩
      have : t < xs.size := by rw [ha.1]; exact hlt
      simp [Array.getElem?_append, this, Array.getD_eq_getD_getElem?]
    · replace h : (if memN i (keysL Hin) = true then φ i g else none) = some b := h
      split at h
      · rename_i hi; exact ⟨h, memN_iff.mp hi⟩
      · cases h
  rw [hn]
  have hds : K.ds = [] := by rw [hK0]; rfl
  have hrd : K.rd = none := by rw [hK0]; rfl
  have hrun := h K φ M _ w hK hgood
  rw [hrd] at hrun
  refine wpIn_mono (F := fen none) hrun fun e a w' hq => ?_
  obtain ⟨st, φ1, M1, hg, hq⟩ := hq
  have fin : ∀ {φ1 : Names} {M1 : Blocks} {w2 : World} {y : Value} {v r : AV} {Hout : List (Nat × AO)}, Good K φ1 M1 st { tmps := a.tmps, defers := [] } w2 → Ra φ1 w2 M1 v y → SubS ⟨1, updF (fun _ => none) 0 v, st.heap, st.used, XK (keysL Hin)⟩ (mkStK 1 [(0, r)] Hout (keysL Hin)) →
      ∃ φ' M', Mem C φ' M' (lookL Hout) (keysL Hout) w2 ∧ Ra φ' w2 M' r y ∧ ∀ i g b, memN i (keysL Hin) = true → φ i g = some b → φ' i g = some b := by
    intro φ1 M1 w2 y v r Hout hg2 hr hsub
    obtain ⟨C', hC', hm2, _⟩ := hg2.mem
    have hC' : C' = C := by rw [hK0] at hC'; exact hC'
    subst hC'
    have hg1 : Good K φ1 M1 ⟨1, updF (fun _ => none) 0 v, st.heap, st.used, XK (keysL Hin)⟩ { tmps := #[y], defers := [] } w2 := by
      have hn := hg2.nms
      subst hK0
      refine { slots := fun t u ht => ?_, nms := fun i g b h => ⟨(hn i g b h).1, ?_⟩, gslots := fun t v ht => (by cases ht), mem := ⟨_, rfl, hm2, [], rfl, List.nodup_nil, fun d hd => (by cases hd)⟩, wide := Nat.le_refl _, yl := rfl, valid := rfl, inr := fun h => (by cases h), rdd := fun _ => rfl }
      · by_cases he : t = 0
        · subst he
          replace ht : updF (fun _ => none) 0 v 0 = some u := ht
          rw [updF_same] at ht
          obtain rfl := Option.some.inj ht
          exact ⟨y, rfl, hr⟩
        · replace ht : updF (fun _ => none) 0 v t = some u := ht
          rw [updF_ne _ _ he] at ht; cases ht
      · replace h : (if memN i (keysL Hin) = true then φ i g else none) = some b := h
        split at h
        · rename_i hi; exact memN_iff.mp hi
        · cases h
    obtain ⟨φ2, M2, hg3⟩ := hsub _ _ _ _ _ hg1
    obtain ⟨y', hy, hry⟩ := hg3.slots 0 r rfl
    have : y' = y := by simpa using hy.symm
    subst this
    obtain ⟨C'', hC'', hm3, _⟩ := hg3.mem
    have hC'' : C'' = C' := by rw [hK0] at hC''; exact hC''
    subst hC''
    refine ⟨φ2, M2, hm3, hry, fun i g b hi hb => (hg3.nms i g b ?_).1⟩
    rw [hK0]
    show (if memN i (keysL Hin) = true then φ i g else none) = some b
    rw [if_pos hi]; exact hb
  have finN : (finK T rs st fun l => ∃ r Hout, post r Hout ∧ SubS ⟨1, updF (fun _ => none) 0 (pack l), st.heap, st.used, XK (keysL Hin)⟩ (mkStK 1 [(0, r)] Hout (keysL Hin))) → LeavesInM (fen none) 0 P fn a.tmps (fun e w' =>
      ∃ x r Hout φ' M', ((e = .returned x ∧ post r Hout) ∨ (e = .panicked [{ v := x, recovered := false }] ∧ postP r Hout)) ∧ Mem C φ' M' (lookL Hout) (keysL Hout) w' ∧ Ra φ' w' M' r x ∧ ∀ i g b, memN i (keysL Hin) = true → φ i g = some b → φ' i g = some b) a.defers .returning w' := by
    intro hk
    refine leave_marks a.defers w' a rfl hg (fun w2 hg2 => ?_) hds
    obtain ⟨l, ys, ⟨r, Hout, hpost, hsub⟩, h1, h2, h3, h4⟩ := finK_sound hT hg2 _ _ hk
    obtain ⟨x, hx, hr⟩ := results_of hrs h1 h2 h3 h4
    obtain ⟨φ', M', q1, q2, q3⟩ := fin hg2 hr hsub
    exact ⟨x, hx, x, r, Hout, φ', M', .inl ⟨rfl, hpost⟩, q1, q2, q3⟩
  cases e with
  | normal => exact finN hq
  | ret => exact finN hq
  | panic ch =>
    obtain ⟨v, x, rfl, hr, hfl, r, Hout, hpost, hsub⟩ := hq
    refine leave_marksU (by simp) hg fun w2 hg2 => ?_
    rw [hds] at hg2 ⊢
    obtain ⟨φ', M', q1, q2, q3⟩ := fin hg2 (AV.flatV_any hr hfl φ1 w2 M1) hsub
    exact ⟨x, r, Hout, φ', M', .inr ⟨rfl, hpost⟩, q1, q2, q3⟩
  | exit i => exact hq.elim
  | goto l => exact hq.elim
  | outgrown => exact hq.elim

theorem HeapCallK.run {f : FuncId} {fn : Func} {c : Code} {args : List AV} {Hin : List (Nat × AO)} {post postP : AV → List (Nat × AO) → Prop} (hT : T.ok P = true) (hmix : P.follows .mixedOrders = true) (hen : enters P f = true) (hf : P.funcs[f]? = some fn) (hb : fn.body = some c)
    {n : Nat} (hn : fn.ntmps = n) {rs : List ResultVar} (hrs : fn.results.toList = rs) (h : ex P T c (finHK T rs (keysL Hin) post postP) (stHK n args Hin)) : HeapCallK P f args Hin post postP :=
  HeapCallK.body hT hen hf hb hn hrs (ex_sound hT hmix _ _ _ h)

theorem CallK.heapK {f : FuncId} {args args' : List AV} {Hin : List (Nat × AO)} {post postP : AV → List (Nat × AO) → Prop} {U : List Nat} {k kp : AV → Heap → List Nat → Prop} (hp : HeapCallK P f args' Hin post postP) (B : List Nat) (U0 : List (Nat × Nat))
    (hi : injR U0 = true) (hi2 : injR (swapL U0) = true) (hk0 : keysIn U0 (keysL Hin) = true) (ha : ArgsLeR H B U0 args args') (hh : AllH ⟨0, fun _ => none, H, U, X0⟩ B U0 Hin) (n : Nat) (hn : allLt U n = true)
    (hk : ∀ r Hout, post r Hout → k (r.ren (renI U0 n)) (joinK H B U0 n Hout) (addU n Hout U))
    (hkp : ∀ r Hout, postP r Hout → kp (r.ren (renI U0 n)) (joinK H B U0 n Hout) (addU n Hout U)) : CallK P f args H U k kp := by
  intro C φ M w xs henv hm hargs
  obtain ⟨hen, hcall⟩ := hp
  refine ⟨hen, ?_⟩
  have hgood : Good (KH C) φ M ⟨0, fun _ => none, H, U, X0⟩ { tmps := #[], defers := [] } w := { slots := fun _ _ h => (by cases h), gslots := fun _ _ h => (by cases h), nms := fun _ _ _ h => (by cases h), mem := ⟨C, rfl, hm, [], rfl, List.nodup_nil, fun d hd => (by cases hd)⟩, wide := Nat.zero_le _, yl := rfl, valid := rfl, inr := fun h => (by cases h), rdd := fun _ => rfl }
  have hg0 := hgood.mkR (n := 0) (s := []) B U0 (injR_out hi) (fun _ _ h => keysIn_out hk0 h) rfl trivial hh (XLe.zero rfl)
  obtain ⟨C00, hC00, hm0, _⟩ := hg0.mem
  have hC00 : C00 = C := hC00
  rw [hC00] at hm0
  have hbl : ∀ id o b, H id = some o → φ id o.gen = some b → b < w.heap.size := fun id o b h1 h2 => (hm.nlt _ _ _ h2).1
  have hkept : ∀ i0 j, lookL U0 i0 = some j → ∃ o, H j = some o ∧ memN j B = false ∧ j < n := by
    intro i0 j hj
    obtain ⟨o', ho'⟩ := keysL_look (keysIn_out hk0 hj)
    rcases hh.get (lookL_mem ho') with ⟨k1, o, w1, ho, hnb, _⟩ | ⟨hu, _⟩ | ⟨k1, o, w1, ho, hnb, _⟩
    · rw [hj] at w1; obtain rfl := Option.some.inj w1
      rw [Bool.or_eq_false_iff] at hnb
      exact ⟨o, ho, hnb.1, allLt_out hn (hm.dom _ _ ho)⟩
    · rw [hj] at hu; cases hu
    · rw [hj] at w1; obtain rfl := Option.some.inj w1
      exact ⟨o, ho, hnb, allLt_out hn (hm.dom _ _ ho)⟩
  have hown : ∀ b, ownOf (renN U0 φ) (lookL Hin) b → ∃ j o, H j = some o ∧ φ j o.gen = some b ∧ memN j (olds U0) = true ∧ memN j B = false := by
    rintro b ⟨id, o', h1, h2⟩
    simp only [renN] at h2
    split at h2
    · rename_i j hj
      rcases hh.get (lookL_mem h1) with ⟨k1, o, w1, ho, hnb, _, e2, _⟩ | ⟨hu, _⟩ | ⟨k1, o, w1, ho, hnb, _, e2, _⟩
      · rw [hj] at w1; obtain rfl := Option.some.inj w1
        rw [Bool.or_eq_false_iff] at hnb
        exact ⟨j, o, ho, by rw [← e2]; exact h2, olds_mem hj, hnb.1⟩
      · rw [hj] at hu; cases hu
      · rw [hj] at w1; obtain rfl := Option.some.inj w1
        exact ⟨j, o, ho, by rw [← e2]; exact h2, olds_mem hj, hnb⟩
    · cases h2
  have hownM : ∀ b, ownOf (renN U0 φ) (lookL Hin) b → ¬ frzM M B H φ b := by
    intro b hb hf
    obtain ⟨j, o, h1, h2, _, h4⟩ := hown b hb
    rcases hf with hf | ⟨id2, o2, k1, k2, k3⟩
    · exact hm.notown hf ⟨j, o, h1, h2⟩
    · have := hm.heap.inj _ _ _ _ _ h1 k2 h2 k3
      subst this; rw [h4] at k1; cases k1
  let C0 : Came := ⟨w, ownOf (renN U0 φ) (lookL Hin), frzM M B H φ, C.no⟩
  have hmc : Mem C0 (renN U0 φ) (frzM M B H φ) (lookL Hin) (keysL Hin) w :=
    { heap := hm0.heap, used := hm0.used, dom := hm0.dom, os := rfl, tape := rfl, output := rfl, size := Nat.le_refl _, frame := fun _ _ _ => rfl,
      fresh := fun id o b h1 h2 => .inl ⟨id, o, h1, h2⟩, reads := fun b hb => .inl hb, keeps := fun _ h => h, sizes := fun _ => Nat.le_refl _, nlt := hm0.nlt, far := ⟨hm0.far.1, fun b hb => Nat.lt_of_lt_of_le (hm.far.2 b hb) hm.size⟩ }
  obtain ⟨hl, hv⟩ := ha.get
  have hargs' : ArgsAre (renN U0 φ) w (frzM M B H φ) args' xs := by
    refine ⟨by rw [← hl]; exact hargs.1, fun i hi => ?_⟩
    exact (hv i hi).sound (φ' := renN U0 φ) hm (fun i' j g b hu hb => by simp only [renN, hu]; exact hb) (fun b h => .inl h) (fun id o b h1 h2 h3 => .inr ⟨id, o, h1, h2, h3⟩) (hargs.2 i (by omega))
  refine (hcall (renN U0 φ) (frzM M B H φ) _ w xs hmc ((henv.at hm).go (fun b h => .inl h) (fun _ _ _ => rfl) (Nat.le_refl _)) hargs').mono fun e w' hq => ?_
  obtain ⟨x, r, Hout, φ1, M1, hpost, hm1, hr, hkeep⟩ := hq
  have hUn : ∀ i g b, φ i g = some b → i < n := fun i g b h => allLt_out hn (hm.used i g b h)
  let φ2 : Names := fun i g => match lookL (swapL U0) i with
    | some i0 => φ1 i0 g
    | none => if n ≤ i then φ1 (i - n) g else φ i g
  have hsw : ∀ i0 j, lookL U0 i0 = some j ↔ lookL (swapL U0) j = some i0 := fun i0 j => by
    constructor
    · intro h; exact swapL_look hi (lookL_mem h)
    · intro h
      have := swapL_look hi2 (lookL_mem h)
      rwa [swapL_swap] at this
  have h2k : ∀ i0 j, lookL U0 i0 = some j → ∀ g, φ2 j g = φ1 i0 g := fun i0 j h g => by simp only [φ2, (hsw i0 j).mp h]
  have h2n : ∀ i, lookL U0 i = none → ∀ g, φ2 (i + n) g = φ1 i g := fun i h g => by
    have : lookL (swapL U0) (i + n) = none := by
      cases hc : lookL (swapL U0) (i + n) with
      | none => rfl
      | some i0 =>
        obtain ⟨_, _, _, hlt⟩ := hkept _ _ ((hsw _ _).mpr hc)
        omega
    simp only [φ2, this]
    rw [if_pos (by omega), show i + n - n = i by omega]
  have h2s : ∀ i, i < n → lookL (swapL U0) i = none → ∀ g, φ2 i g = φ i g := fun i h h' g => by
    simp only [φ2, h']; rw [if_neg (by omega)]
  have h2r : ∀ i g, φ2 (renI U0 n i) g = φ1 i g := fun i g => by
    unfold renI
    cases hc : lookL U0 i with
    | some j => exact h2k i j hc g
    | none => exact h2n i hc g
  have hφ : ∀ i g b, φ i g = some b → φ2 i g = some b := fun i g b h => by
    cases hc : lookL (swapL U0) i with
    | some i0 =>
      have hj := (hsw i0 i).mpr hc
      rw [h2k i0 i hj]
      refine hkeep i0 g b (keysIn_out hk0 hj) ?_
      simp only [renN, hj]; exact h
    | none => rw [h2s i (hUn i g b h) hc]; exact h
  have hφs : ∀ i g b, φ1 i g = some b → φ2 (renI U0 n i) g = some b := fun i g b h => by rw [h2r]; exact h
  have hMM : ∀ b, M b → M1 b := fun b h => hm1.keeps b (.inl h)
  have hMs : ∀ b, M b → w'.heap[b]? = w.heap[b]? := fun b h => hm1.frame b (hm.heap.mlt b h) (fun ho => hownM b ho (.inl h))
  have hstay : ∀ id o b, memN id (olds U0) = false → H id = some o → φ id o.gen = some b → ¬ ownOf (renN U0 φ) (lookL Hin) b := by
    intro id o b h1 h2 h3 ho
    obtain ⟨j, o2, k1, k2, k3, _⟩ := hown b ho
    have := hm.heap.inj _ _ _ _ _ h2 k1 h3 k2
    subst this; rw [h1] at k3; cases k3
  suffices hmem : Mem C φ2 M1 (joinK H B U0 n Hout) (addU n Hout U) w' by
    rcases hpost with ⟨rfl, hpost⟩ | ⟨rfl, hpost⟩
    · exact ⟨φ2, M1, _, _, hφ, hMM, hMs, hm1.sizes, hmem, _, hr.ren hφs, hk r Hout hpost⟩
    · exact ⟨φ2, M1, _, _, hφ, hMM, hMs, hm1.sizes, hmem, _, x, rfl, hr.ren hφs, hkp r Hout hpost⟩
  have hlook : ∀ i o, joinK H B U0 n Hout i = some o → (i < n ∧ memN i B = false ∧ memN i (olds U0) = false ∧ H i = some o ∧ ∀ g, φ2 i g = φ i g) ∨ (∃ i0 o', lookL Hout i0 = some o' ∧ o = o'.ren (renI U0 n) ∧ i = renI U0 n i0) := by
    intro i o h
    simp only [joinK] at h
    split at h
    · rename_i i0 hi0
      obtain ⟨o', ho', rfl⟩ := Option.map_eq_some_iff.mp h
      exact .inr ⟨i0, o', ho', rfl, by unfold renI; rw [(hsw i0 i).mpr hi0]⟩
    · rename_i hnone
      cases hb : Nat.ble n i with
      | true =>
        rw [hb] at h
        have hle := Nat.le_of_ble_eq_true hb
        simp only [cond_true] at h
        split at h
        · cases h
        · rename_i hn0
          obtain ⟨o', ho', rfl⟩ := Option.map_eq_some_iff.mp h
          exact .inr ⟨i - n, o', ho', rfl, by unfold renI; rw [hn0]; simp only; omega⟩
      | false =>
        rw [hb] at h
        simp only [cond_false] at h
        have hlt : i < n := by
          rcases Nat.lt_or_ge i n with h | h
          · exact h
          · rw [Nat.ble_eq_true_of_le h] at hb; cases hb
        rw [dropH_eq] at h
        by_cases hB : memN i B = true
        · rw [if_pos hB] at h; cases h
        · rw [if_neg hB] at h
          exact .inl ⟨hlt, by simpa using hB, olds_none hnone, h, h2s i hlt hnone⟩
  refine { heap := { own := ?_, inj := ?_, last := ?_, mlt := hm1.heap.mlt }, used := ?_, dom := ?_, os := hm1.os.trans hm.os, tape := hm1.tape.trans hm.tape, output := hm1.output.trans hm.output, size := Nat.le_trans hm.size hm1.size, frame := ?_, fresh := ?_, reads := ?_, keeps := fun b hb => hMM b (hm.keeps b hb), sizes := fun b => Nat.le_trans (hm.sizes b) (hm1.sizes b), nlt := ?_, far := ?_ }
  · intro i o ho
    rcases hlook i o ho with ⟨hi, hnb, hno, hoo, hφi⟩ | ⟨i0, o', ho', rfl, rfl⟩
    · have hnM1 : ∀ b, φ i o.gen = some b → ¬ M b → ¬ M1 b := by
        intro b g1 g5 hM1
        have hb := hbl i o b hoo g1
        have hnotown := hstay i o b hno hoo g1
        rcases hm1.reads b hM1 with (h | ⟨id2, o2, k1, k2, k3⟩) | h | h
        · exact g5 h
        · have := hm.heap.inj _ _ _ _ _ hoo k2 g1 k3
          subst this; rw [hnb] at k1; cases k1
        · exact hnotown h
        · exact absurd hb (Nat.not_lt.mpr h)
      rcases hm.heap.own i o hoo with ⟨h0, h0'⟩ | ⟨b, arr, fz, g1, g2, g3, g4, g5, g6, g7⟩
      · refine .inl ⟨h0, ?_⟩
        rw [hφi]
        exact ObjAt.or h0' (fun h => h) (fun _ h => h) (fun b hb hlt _ => hm1.frame b hlt (hstay i o b hno hoo hb)) (fun b hb _ hM => hnM1 b hb hM) (fun _ _ hx => hx.mono hφ hMM hMs hm1.sizes)
      · have hb := hbl i o b hoo g1
        have hnotown := hstay i o b hno hoo g1
        exact .inr ⟨b, arr, fz, hφ _ _ _ g1, by rw [hm1.frame b hb hnotown]; exact g2, g3, g4, hnM1 b g1 g5, g6, fun p q hp hq => (g7 p q hp hq).mono hφ hMM hMs hm1.sizes⟩
    · rcases hm1.heap.own _ o' ho' with ⟨h0, h0'⟩ | ⟨b, arr, fz, g1, g2, g3, g4, g5, g6, g7⟩
      · refine .inl ⟨h0, ?_⟩
        show φ2 _ o'.gen = none ∨ ObjAt φ2 w' M1 (o'.ren _) (φ2 _ o'.gen)
        rw [h2r]
        exact h0'.imp_right (ObjAt.ren fun v x hx => hx.ren hφs)
      · exact .inr ⟨b, arr, fz, (h2r _ _).trans g1, g2, g3, g4, g5, g6, fun p q hp hq => (g7 p q hp hq).ren hφs⟩
  · intro i1 i2 o1 o2 b h1 h2 h3 h4
    have cross : ∀ i0 j o o' b, memN j (olds U0) = false → H j = some o → φ j o.gen = some b → lookL Hout i0 = some o' → φ1 i0 o'.gen = some b → False := by
      intro i0 j o o' b hno hoo hb1 ho' hb2
      rcases hm1.fresh _ o' b ho' hb2 with h | h
      · exact hstay j o b hno hoo hb1 h
      · have := hbl j o b hoo hb1; exact absurd this (Nat.not_lt.mpr h)
    rcases hlook i1 o1 h1 with ⟨_, _, hn1, k1, e1⟩ | ⟨p1, q1, k1, rfl, rfl⟩
    · rw [e1] at h3
      rcases hlook i2 o2 h2 with ⟨_, _, hn2, k2, e2⟩ | ⟨p2, q2, k2, rfl, rfl⟩
      · rw [e2] at h4
        exact hm.heap.inj _ _ _ _ _ k1 k2 h3 h4
      · exact (cross p2 i1 o1 q2 b hn1 k1 h3 k2 ((h2r _ _).symm.trans h4)).elim
    · replace h3 := (h2r _ _).symm.trans h3
      rcases hlook i2 o2 h2 with ⟨_, _, hn2, k2, e2⟩ | ⟨p2, q2, k2, rfl, rfl⟩
      · rw [e2] at h4
        exact (cross p1 i2 o2 q1 b hn2 k2 h4 k1 h3).elim
      · have := hm1.heap.inj _ _ _ _ _ k1 k2 h3 ((h2r _ _).symm.trans h4)
        rw [this]
  · intro i o g b ho hgb
    rcases hlook i o ho with ⟨_, _, _, k1, e1⟩ | ⟨p1, q1, k1, rfl, rfl⟩
    · rw [e1] at hgb; exact hm.heap.last _ _ _ _ k1 hgb
    · exact hm1.heap.last _ q1 g b k1 ((h2r _ _).symm.trans hgb)
  · intro i g b hb
    cases hc : lookL (swapL U0) i with
    | some i0 =>
      obtain ⟨o, ho, _⟩ := hkept _ _ ((hsw i0 i).mpr hc)
      exact addU_mem.mpr (.inr (hm.dom _ _ ho))
    | none =>
      by_cases hi : i < n
      · rw [h2s i hi hc] at hb; exact addU_mem.mpr (.inr (hm.used _ _ _ hb))
      · simp only [φ2, hc] at hb
        rw [if_pos (by omega)] at hb
        exact addU_mem.mpr (.inl ⟨i - n, memN_iff.mpr (hm1.used _ _ _ hb), by omega⟩)
  · intro i o ho
    rcases hlook i o ho with ⟨_, _, _, k1, _⟩ | ⟨p1, q1, k1, rfl, rfl⟩
    · exact addU_mem.mpr (.inr (hm.dom _ _ k1))
    · unfold renI
      cases hc : lookL U0 p1 with
      | some j =>
        obtain ⟨o, ho, _⟩ := hkept _ _ hc
        exact addU_mem.mpr (.inr (hm.dom _ _ ho))
      | none => exact addU_mem.mpr (.inl ⟨p1, keysL_mem k1, rfl⟩)
  · intro b hb hown'
    have hlt : b < w.heap.size := Nat.lt_of_lt_of_le hb hm.size
    rw [hm1.frame b hlt ?_]
    · exact hm.frame b hb hown'
    · intro ho
      obtain ⟨j, o, k1, k2, _⟩ := hown b ho
      rcases hm.fresh _ _ _ k1 k2 with h | h
      · exact hown' h
      · omega
  · intro i o b ho hb
    rcases hlook i o ho with ⟨_, _, _, k1, e1⟩ | ⟨p1, q1, k1, rfl, rfl⟩
    · rw [e1] at hb; exact hm.fresh _ _ _ k1 hb
    · rcases hm1.fresh _ _ _ k1 ((h2r _ _).symm.trans hb) with h | h
      · obtain ⟨j, o, k1, k2, _⟩ := hown b h
        exact hm.fresh _ _ _ k1 k2
      · exact .inr (Nat.le_trans hm.size h)
  · intro b hb
    rcases hm1.reads b hb with (h | ⟨id2, o2, k1, k2, k3⟩) | h | h
    · exact hm.reads b h
    · exact .inr (hm.fresh _ _ _ k2 k3)
    · obtain ⟨j, o, k1, k2, _⟩ := hown b h
      exact .inr (hm.fresh _ _ _ k1 k2)
    · exact .inr (.inr (Nat.le_trans hm.size h))
  · intro i g b hb
    cases hc : lookL (swapL U0) i with
    | some i0 =>
      rw [h2k i0 i ((hsw i0 i).mpr hc)] at hb
      exact hm1.nlt _ _ _ hb
    | none =>
      by_cases hi : i < n
      · rw [h2s i hi hc] at hb; exact ⟨Nat.lt_of_lt_of_le (hm.nlt _ _ _ hb).1 hm1.size, (hm.nlt _ _ _ hb).2⟩
      · simp only [φ2, hc] at hb
        rw [if_pos (by omega)] at hb
        exact hm1.nlt _ _ _ hb
  · exact ⟨hm1.far.1, hm.far.2⟩

end
end Go.AM

namespace Go.AM
open Go Go.RowKit

/-- What an operation reckons that does not look at memory that may be written. -/
def pureSem (T : Tab) (op : Op) (ev : Operand → Option AV) : Option Res :=
  match op with
  | .load t a => (ev a).bind fun v =>
    match v with
    | .rptr n f => opLoad T t (.rptr n f) fun _ => none
    | _ => none
  | .convert s t x => (ev x).bind fun v => opConvert T s t v
  | .move x => (ev x).bind okRes
  | .assign x => (ev x).bind okRes
  | .binOp op t x y _ => (ev x).bind fun v => (ev y).bind fun u => bif nilConst y then opNil T op t v u else opBin T op t v u
  | .unOp op _ x => (ev x).bind fun v => opUn op v
  | .fieldAddr s x k => (ev x).bind fun v => opFieldAddr T s v k
  | .field s x k => (ev x).bind fun v => opField T s v k
  | .indexAddr t x i => (ev x).bind fun v => (ev i).bind fun u => opIndexAddr T t v u
  | .index t x i => (ev x).bind fun v => (ev i).bind fun u => opIndex T t v u
  | .extract x i => (ev x).bind fun v => opExtract v i
  | .nilCheck x => (ev x).bind opNilCheck
  | .call { callee := .builtin .len, args, argTypes } => (evalList ev args.toList).bind fun l =>
    match argTypes.toList, l with
    | [t], [x] => opLen T t x
    | _, _ => none
  | _ => none

theorem pureSem_sem {T : Tab} {op : Op} {d : Nat} {ev : Operand → Option AV} {r : Res} (h : pureSem T op ev = some r) (H : Heap) : opSem T op d ev H = some r := by
  unfold pureSem at h
  split at h
  · obtain ⟨v, hv, h⟩ := Option.bind_eq_some_iff.mp h
    simp only [opSem, hv, Option.bind_some]
    split at h
    · exact h
    · cases h
  · obtain ⟨v, hv, h⟩ := Option.bind_eq_some_iff.mp h
    simp only [opSem, hv, Option.bind_some, h, orElseR]
  all_goals first
    | exact h
    | (obtain ⟨l, hl, h⟩ := Option.bind_eq_some_iff.mp h
       simp only [opSem, hl, Option.bind_some]
       split at h
       · rename_i hts
         simp only [opBuiltin, hts]; exact h
       · cases h)
    | cases h

theorem pureSem_local {T : Tab} {op : Op} {ev ev' : Operand → Option AV} (h1 : ∀ y ∈ op.operands.toList, ev y = ev' y) : pureSem T op ev = pureSem T op ev' := by
  cases op <;> simp only [pureSem]
  case move x => rw [h1 x (by simp [Op.operands])]
  case assign x => rw [h1 x (by simp [Op.operands])]
  case load t x => rw [h1 x (by simp [Op.operands])]
  case binOp o t x y u => rw [h1 x (by simp [Op.operands]), h1 y (by simp [Op.operands])]
  case unOp o t x => rw [h1 x (by simp [Op.operands])]
  case convert s t x => rw [h1 x (by simp [Op.operands])]
  case fieldAddr t x k => rw [h1 x (by simp [Op.operands])]
  case field t x k => rw [h1 x (by simp [Op.operands])]
  case indexAddr t x i => rw [h1 x (by simp [Op.operands]), h1 i (by simp [Op.operands])]
  case index t x i => rw [h1 x (by simp [Op.operands]), h1 i (by simp [Op.operands])]
  case extract x i => rw [h1 x (by simp [Op.operands])]
  case nilCheck x => rw [h1 x (by simp [Op.operands])]
  case call c =>
    obtain ⟨callee, args, ts⟩ := c
    cases callee with
    | value _ => rfl
    | invoke _ _ => rfl
    | builtin b =>
      have he : evalList ev args.toList = evalList ev' args.toList := evalList_congr (fun y hy => h1 y (by simp [Op.operands, Call.operands]; first | (right; simpa using hy) | simpa using hy))
      cases b <;> first | rfl | (show (evalList ev args.toList).bind _ = (evalList ev' args.toList).bind _; rw [he])

def pureStep (T : Tab) (o : Oper) (st : ASt) (k : ASt → Prop) : Prop :=
  match st with
  | ⟨nt, s, H, U, X⟩ =>
  match o.guard, o.dst with
  | none, some d =>
    match pureSem T o.op (evalO s) with
    | some ⟨ob, v, .none⟩ => bif Nat.ble (d + 1) nt then oblK ob (k ⟨nt, updF s d v, H, U, X⟩) else False
    | _ => False
  | _, _ => False
/-- A call. -/
def callStep (P : Program) (Q : APost) (o : Oper) (st : ASt) (k : ASt → Prop) : Prop :=
  match st with
  | ⟨nt, s, H, U, X⟩ =>
  match o.op, o.guard, o.dst with
  | .call { callee := .value f, args, .. }, none, some d =>
    match evalO s f, evalList (evalO s) args.toList with
    | some (.func (.func g) 0 _ nc caps), some l => bif Nat.ble (d + 1) nt then CallK P g (l ++ (List.range nc).map caps) H U (fun r H U => k ⟨nt, updF s d r, H, U, X⟩) (fun r H U => Q (.panic r) ⟨nt, s, H, U, X⟩) else False
    | _, _ => False
  | _, _, _ => False
def stepM (P : Program) (T : Tab) (Q : APost) (pu : List Nat) (i : Nat) (o : Oper) (st : ASt) (k : ASt → Prop) : Prop :=
  bif memN i pu then pureStep T o st k else callStep P Q o st k
def aopsM (P : Program) (T : Tab) (ops : List Oper) (Q : APost) (pu : List Nat) : List Nat → ASt → Prop
  | [], st => Q .normal st
  | i :: rest, st =>
    match ops[i]? with
    | none => False
    | some o => stepM P T Q pu i o st (aopsM P T ops Q pu rest)

/-- y floats over x. -/
def floats (y x : Oper) : Bool :=
  match y.dst with
  | some d => (match x.dst with | some e => !Nat.beq d e | none => true) && x.op.operands.toList.all (fun u => match u with | .tmp t => !Nat.beq t d | _ => true) &&
      y.op.operands.toList.all (fun u => match u, x.dst with | .tmp t, some e => !Nat.beq t e | _, _ => true)
  | none => false
def bindsB (x : Oper) (y : Nat) : Bool := x.after.toList.any fun e => Region.binds .any e && Nat.beq e.on y
/-- The order is one that may be drawn, and what does not bind floats. -/
def pairsM (ops : List Oper) (pu : List Nat) : List Nat → Bool
  | [] => true
  | y :: l => pairsM ops pu l && l.all fun x =>
    match ops[x]?, ops[y]? with
    | some ox, some oy => bindsB ox y || (memN y pu && floats oy ox)
    | _, _ => false
def orderM (ops : List Oper) : List Nat → List Nat → Bool
  | _, [] => true
  | acc, x :: l => (match ops[x]? with
    | some o => o.after.toList.all fun e => !Region.binds .any e || memN e.on acc
    | none => false) && orderM ops (x :: acc) l

section
variable {P : Program} {T : Tab} {st : ASt} {Q : APost} {H : Heap} {U : List Nat}

theorem CallK.imp {f : FuncId} {args : List AV} {k kp k' kp' : AV → Heap → List Nat → Prop} (h : CallK P f args H U k kp) (hk : ∀ r H U, k r H U → k' r H U) (hkp : ∀ r H U, kp r H U → kp' r H U) : CallK P f args H U k' kp' := by
  intro C φ M w xs henv hm hargs
  obtain ⟨hen, hc⟩ := h C φ M w xs henv hm hargs
  refine ⟨hen, hc.mono fun e w' hq => ?_⟩
  obtain ⟨φ', M', H', U', q1, q2, q3, q4, q5, q6⟩ := hq
  refine ⟨φ', M', H', U', q1, q2, q3, q4, q5, ?_⟩
  cases e with
  | returned x => obtain ⟨r, h1, h2⟩ := q6; exact ⟨r, h1, hk _ _ _ h2⟩
  | panicked ch => obtain ⟨r, x, h0, h1, h2⟩ := q6; exact ⟨r, x, h0, h1, hkp _ _ _ h2⟩
  | outgrown => exact q6

theorem oblK_imp {ob : Option Prop} {p q : Prop} (h : oblK ob p) (hpq : p → q) : oblK ob q := by
  cases ob with
  | none => exact hpq h
  | some o => exact ⟨h.1, hpq h.2⟩

theorem updF_comm {α : Type} (f : Nat → Option α) {d e : Nat} (v r : α) (h : d ≠ e) : updF (updF f d v) e r = updF (updF f e r) d v := by
  funext t
  by_cases h1 : t = d
  · subst h1; rw [updF_ne _ _ h, updF_same, updF_same]
  · by_cases h2 : t = e
    · subst h2; rw [updF_same, updF_ne _ _ h1, updF_same]
    · rw [updF_ne _ _ h2, updF_ne _ _ h1, updF_ne _ _ h1, updF_ne _ _ h2]

theorem pureStep_imp {o : Oper} {k k' : ASt → Prop} (h : pureStep T o st k) (hk : ∀ s, k s → k' s) : pureStep T o st k' := by
  obtain ⟨nt, s, H, U, X⟩ := st
  obtain ⟨dst, op, ty, pos, after, guard⟩ := o
  unfold pureStep at h ⊢
  cases guard with
  | some _ => exact h.elim
  | none =>
    cases dst with
    | none => exact h.elim
    | some d =>
      simp only at h ⊢
      cases hr : pureSem T op (evalO s) with
      | none => rw [hr] at h; exact h.elim
      | some r =>
        obtain ⟨ob, v, eff⟩ := r
        rw [hr] at h
        cases eff with
        | none =>
          cases hb : Nat.ble (d + 1) nt with
          | false => simp only [hb, cond_false] at h
          | true => simp only [hb, cond_true] at h ⊢; exact oblK_imp h (hk _)
        | _ => exact h.elim

theorem pureStep_stepK {o : Oper} {k : ASt → Prop} (h : pureStep T o st k) : o.guard = none ∧ stepK P T Q o st k := by
  obtain ⟨nt, s, H, U, X⟩ := st
  obtain ⟨dst, op, ty, pos, after, guard⟩ := o
  unfold pureStep at h
  simp only at h
  cases guard with
  | some _ => exact h.elim
  | none =>
  cases dst with
  | none => exact h.elim
  | some d =>
    simp only at h
    refine ⟨rfl, ?_⟩
    split at h
    · rename_i ob v hr
      have hs := pureSem_sem (d := d) hr H
      have goal : (match opSem T op d (evalO s) H with
        | some ⟨ob, v, eff⟩ => bif Nat.ble (d + 1) nt then
            match eff with
            | .none => oblK ob (k ⟨nt, updF s d v, H, U, X⟩)
            | .upd id ao => oblK ob (k ⟨nt, updF s d v, updF H id ao, U, X⟩)
            | .app id ao => oblK ob (k ⟨nt, updF s d v, updF H id ao, U, X⟩)
            | .new id ao => bif memN id U then False else oblK ob (k ⟨nt, updF s d v, updF H id ao, id :: U, X⟩)
          else False
        | none => match opAny T op (evalO s) with
          | some S => bif Nat.ble (d + 1) nt then ∀ v, S v → k ⟨nt, updF s d v, H, U, X⟩ else False
          | none => match opNd T op d (evalO s) H U with
            | some F => bif Nat.ble (d + 1) nt then F fun v H U => k ⟨nt, updF s d v, H, U, X⟩ else False
            | none => False) := by
        rw [hs]; exact h
      cases op <;> first
        | exact goal
        | (rename_i c; obtain ⟨callee, cargs, cts⟩ := c; cases callee <;> first | exact goal | (simp [pureSem] at hr))
        | (simp [pureSem] at hr)
    · exact h.elim

theorem callStep_imp {o : Oper} {k k' : ASt → Prop} (h : callStep P Q o st k) (hk : ∀ s, k s → k' s) : callStep P Q o st k' := by
  obtain ⟨nt, s, H, U, X⟩ := st
  obtain ⟨dst, op, ty, pos, after, guard⟩ := o
  unfold callStep at h ⊢
  cases guard with
  | some _ => simp only at h
  | none =>
  cases dst with
  | none => simp only at h
  | some d =>
  simp only at h ⊢
  split at h
  · rename_i e _ _
    split at h
    · cases hb : Nat.ble (e + 1) nt with
      | false => rw [hb] at h; exact h.elim
      | true => rw [hb] at h; exact CallK.imp h (fun _ _ _ => hk _) (fun _ _ _ h => h)
    · exact h.elim
  · exact h.elim

theorem callStep_stepK {o : Oper} {k : ASt → Prop} (h : callStep P Q o st k) : o.guard = none ∧ stepK P T Q o st k := by
  obtain ⟨nt, s, H, U, X⟩ := st
  obtain ⟨dst, op, ty, pos, after, guard⟩ := o
  unfold callStep at h
  simp only at h
  split at h
  · split at h
    · rename_i hf hl
      refine ⟨rfl, ?_⟩
      unfold stepK
      simp only [hf, hl]
      exact h
    · exact h.elim
  · exact h.elim

theorem stepM_imp {o : Oper} {pu : List Nat} {i : Nat} {k k' : ASt → Prop} (h : stepM P T Q pu i o st k) (hk : ∀ s, k s → k' s) : stepM P T Q pu i o st k' := by
  unfold stepM at h ⊢
  cases hp : memN i pu with
  | true => rw [hp] at h; exact pureStep_imp h hk
  | false => rw [hp] at h; exact callStep_imp h hk
theorem stepM_stepK {o : Oper} {pu : List Nat} {i : Nat} {k : ASt → Prop} (h : stepM P T Q pu i o st k) : o.guard = none ∧ stepK P T Q o st k := by
  unfold stepM at h
  cases hp : memN i pu with
  | true => rw [hp] at h; exact pureStep_stepK h
  | false => rw [hp] at h; exact callStep_stepK h

theorem evalO_ne {s : Nat → Option AV} {d : Nat} {v : AV} {u : Operand} (h : (match u with | .tmp t => !Nat.beq t d | _ => true) = true) : evalO (updF s d v) u = evalO s u := by
  cases u with
  | tmp t =>
    simp only [Bool.not_eq_true'] at h
    simp only [evalO]
    rw [updF_ne]
    intro e; subst e; rw [Nat.beq_refl] at h; cases h
  | _ => rfl

/-- A reckoning floats over the next step. -/
theorem float {y x : Oper} {pu : List Nat} {i : Nat} {k : ASt → Prop} (hQ : ∀ r nt s s' H U X, Q (.panic r) ⟨nt, s, H, U, X⟩ → Q (.panic r) ⟨nt, s', H, U, X⟩) (hf : floats y x = true) (h : pureStep T y st fun s => stepM P T Q pu i x s k) : stepM P T Q pu i x st fun s => pureStep T y s k := by
  obtain ⟨nt, s, H, U, X⟩ := st
  obtain ⟨yd, yop, yt, yp, ya, yg⟩ := y
  obtain ⟨xd, xop, xt, xp, xa, xg⟩ := x
  unfold pureStep at h
  simp only at h
  cases yg with
  | some _ => exact h.elim
  | none =>
  cases yd with
  | none => exact h.elim
  | some d =>
  simp only at h
  cases hr : pureSem T yop (evalO s) with
  | none => rw [hr] at h; exact h.elim
  | some r =>
  obtain ⟨ob, v, eff⟩ := r
  rw [hr] at h
  cases eff with
  | upd _ _ => exact h.elim
  | app _ _ => exact h.elim
  | new _ _ => exact h.elim
  | none =>
  cases hb : Nat.ble (d + 1) nt with
  | false => rw [hb] at h; exact h.elim
  | true =>
  rw [hb] at h
  simp only [cond_true] at h
  simp only [floats, Bool.and_eq_true, List.all_eq_true] at hf
  obtain ⟨⟨hde, hx⟩, hy⟩ := hf
  have evx : ∀ u ∈ xop.operands.toList, evalO (updF s d v) u = evalO s u := fun u hu => evalO_ne (hx u hu)
  have evy : ∀ (e : Nat) (r : AV), xd = some e → pureSem T yop (evalO (updF s e r)) = some ⟨ob, v, .none⟩ := fun e r he => by
    rw [← hr]
    refine pureSem_local fun u hu => ?_
    have := hy u hu
    subst he
    refine evalO_ne ?_
    cases u <;> first | exact this | rfl
  have back : ∀ (e : Nat) (r : AV) (H' : Heap) (U' : List Nat), xd = some e → oblK ob (k ⟨nt, updF (updF s d v) e r, H', U', X⟩) → pureStep T ⟨some d, yop, yt, yp, ya, none⟩ ⟨nt, updF s e r, H', U', X⟩ k := fun e r H' U' he hk => by
    unfold pureStep
    simp only [evy e r he, hb, cond_true]
    have hne : d ≠ e := by
      subst he
      intro e1; subst e1
      simp only [Nat.beq_refl, Bool.not_true] at hde
      cases hde
    rw [updF_comm _ _ _ hne] at hk
    exact hk
  unfold stepM at h ⊢
  cases hp : memN i pu with
  | true =>
    rw [hp] at h
    simp only [cond_true] at h ⊢
    unfold pureStep at h ⊢
    simp only at h ⊢
    have hxs : pureSem T xop (evalO (updF s d v)) = pureSem T xop (evalO s) := pureSem_local evx
    rw [hxs] at h
    have key : ∀ {p q : Prop}, oblK ob p → (p → q) → oblK ob q := oblK_imp
    cases xg with
    | some _ =>
      exfalso
      cases ob with
      | none => exact h
      | some _ => exact h.2
    | none =>
    cases xd with
    | none =>
      exfalso
      cases ob with
      | none => exact h
      | some _ => exact h.2
    | some e =>
      simp only at h ⊢
      split
      · rename_i ob2 v2 hr2
        simp only [hr2] at h
        cases hb2 : Nat.ble (e + 1) nt with
        | false =>
          rw [hb2] at h
          cases ob with
          | none => exact h.elim
          | some p => exact h.2.elim
        | true =>
          rw [hb2] at h
          simp only [cond_true] at h ⊢
          cases ob2 with
          | none => exact back e v2 H U rfl h
          | some p2 =>
            cases ob with
            | none => exact ⟨h.1, back e v2 H U rfl h.2⟩
            | some p1 => exact ⟨h.2.1, back e v2 H U rfl ⟨h.1, h.2.2⟩⟩
      · rename_i hno
        exfalso
        revert h
        cases hz : pureSem T xop (evalO s) with
        | none => cases ob <;> simp [oblK]
        | some r2 =>
          obtain ⟨ob2, v2, eff⟩ := r2
          cases eff with
          | none => exact absurd hz (hno _ _)
          | _ => cases ob <;> simp [oblK]
  | false =>
    rw [hp] at h
    simp only [cond_false] at h ⊢
    unfold callStep at h ⊢
    simp only at h ⊢
    split
    · rename_i f args ts e
      have ef : evalO (updF s d v) f = evalO s f := evx f (by simp [Op.operands, Call.operands])
      have el : evalList (evalO (updF s d v)) args.toList = evalList (evalO s) args.toList := evalList_congr fun u hu => evx u (by simp [Op.operands, Call.operands]; right; simpa using hu)
      simp only [ef, el] at h
      split
      · rename_i g fs nc caps l hf hl
        simp only [hf, hl] at h
        cases hb2 : Nat.ble (e + 1) nt with
        | false =>
          rw [hb2] at h
          cases ob with
          | none => exact h.elim
          | some p => exact h.2.elim
        | true =>
          rw [hb2] at h
          simp only [cond_true] at h ⊢
          have hob : ∀ {p : Prop}, oblK ob p → p := fun {p} h => by cases ob with | none => exact h | some _ => exact h.2
          refine (hob h).imp (fun r H' U' hk => back e r H' U' rfl ?_) (fun r H' U' hk => hQ _ _ _ _ _ _ _ hk)
          exact oblK_imp h fun _ => hk
      · rename_i hno
        exfalso
        revert h
        split
        · rename_i hf hl; exact absurd hl (hno _ _ _ _ _ hf)
        · cases ob <;> simp [oblK]
    · rename_i hno
      exfalso
      revert h
      split
      · rename_i f args ts e; exact (hno _ _ _ _ rfl rfl rfl).elim
      · cases ob <;> simp [oblK]

/-- An operation that may come first is taken to the front. -/
theorem aopsM_front {ops : List Oper} {pu : List Nat} {x : Nat} {ox : Oper} (hQ : ∀ r nt s s' H U X, Q (.panic r) ⟨nt, s, H, U, X⟩ → Q (.panic r) ⟨nt, s', H, U, X⟩) (hox : ops[x]? = some ox) : ∀ (R1 R2 : List Nat) (st : ASt), pairsM ops pu (R1 ++ x :: R2) = true → (∀ y ∈ R1, bindsB ox y = false) →
    aopsM P T ops Q pu (R1 ++ x :: R2) st → stepM P T Q pu x ox st (aopsM P T ops Q pu (R1 ++ R2)) := by
  intro R1
  induction R1 with
  | nil =>
    intro R2 st _ _ h
    simp only [List.nil_append, aopsM, hox] at h
    exact h
  | cons y R1 ih =>
    intro R2 st hp hb h
    simp only [List.cons_append, pairsM, Bool.and_eq_true, List.all_eq_true] at hp
    obtain ⟨hp1, hp2⟩ := hp
    have hxy := hp2 x (by simp)
    rw [hox] at hxy
    simp only [List.cons_append, aopsM] at h ⊢
    cases hoy : ops[y]? with
    | none => rw [hoy] at hxy; cases hxy
    | some oy =>
      rw [hoy] at hxy h
      simp only at hxy h
      rw [hb y (List.mem_cons_self ..), Bool.false_or, Bool.and_eq_true] at hxy
      obtain ⟨hpu, hfl⟩ := hxy
      have h1 : pureStep T oy st (aopsM P T ops Q pu (R1 ++ x :: R2)) := by
        unfold stepM at h; rw [hpu] at h; exact h
      have h2 := pureStep_imp h1 fun s hs => ih R2 s hp1 (fun z hz => hb z (List.mem_cons_of_mem _ hz)) hs
      have h3 := float hQ hfl h2
      refine stepM_imp h3 fun s hs => ?_
      dsimp only
      unfold stepM; rw [hpu]; exact hs

theorem pairsM_del {ops : List Oper} {pu : List Nat} {x : Nat} : ∀ {R1 R2 : List Nat}, pairsM ops pu (R1 ++ x :: R2) = true → pairsM ops pu (R1 ++ R2) = true := by
  intro R1
  induction R1 with
  | nil => intro R2 h; simp only [List.nil_append, pairsM, Bool.and_eq_true] at h; exact h.1
  | cons y R1 ih =>
    intro R2 h
    simp only [List.cons_append, pairsM, Bool.and_eq_true, List.all_eq_true] at h ⊢
    refine ⟨ih h.1, fun z hz => h.2 z ?_⟩
    simp only [List.mem_append, List.mem_cons] at hz ⊢
    rcases hz with hz | hz
    · exact .inl hz
    · exact .inr (.inr hz)


theorem orderM_sub {ops : List Oper} : ∀ {R acc acc' : List Nat}, (∀ i, memN i acc = true → memN i acc' = true) → orderM ops acc R = true → orderM ops acc' R = true := by
  intro R
  induction R with
  | nil => intro _ _ _ _; rfl
  | cons x R ih =>
    intro acc acc' hs h
    simp only [orderM, Bool.and_eq_true] at h ⊢
    refine ⟨?_, ih (acc := x :: acc) (acc' := x :: acc') (fun i hi => ?_) h.2⟩
    · cases ho : ops[x]? with
      | none => rw [ho] at h; exact absurd h.1 (by simp)
      | some o =>
        rw [ho] at h
        have h1 := h.1
        simp only [List.all_eq_true, Bool.or_eq_true] at h1 ⊢
        exact fun e he => (h1 e he).imp id (hs _)
    · simp only [memN, Bool.or_eq_true] at hi ⊢
      exact hi.imp id (hs i)
theorem orderM_del {ops : List Oper} {x : Nat} : ∀ {R1 R2 acc : List Nat}, orderM ops acc (R1 ++ x :: R2) = true → orderM ops (x :: acc) (R1 ++ R2) = true := by
  intro R1
  induction R1 with
  | nil => intro R2 acc h; simp only [List.nil_append, orderM, Bool.and_eq_true] at h ⊢; exact h.2
  | cons y R1 ih =>
    intro R2 acc h
    simp only [List.cons_append, orderM, Bool.and_eq_true] at h ⊢
    refine ⟨?_, orderM_sub (fun i hi => ?_) (ih h.2)⟩
    · cases ho : ops[y]? with
      | none => rw [ho] at h; exact absurd h.1 (by simp)
      | some o =>
        rw [ho] at h
        have h1 := h.1
        simp only [List.all_eq_true, Bool.or_eq_true] at h1 ⊢
        exact fun e he => (h1 e he).imp id fun hm => by simp only [memN, Bool.or_eq_true]; exact .inr hm
    · simp only [memN, Bool.or_eq_true] at hi ⊢
      rcases hi with hi | hi | hi
      · exact .inr (.inl hi)
      · exact .inl hi
      · exact .inr (.inr hi)

/-- One order for all. -/
theorem orders_all {ops : List Oper} {pu : List Nat} (hQ : ∀ r nt s s' H U X, Q (.panic r) ⟨nt, s, H, U, X⟩ → Q (.panic r) ⟨nt, s', H, U, X⟩) : ∀ (n : Nat) (R acc : List Nat) (l : List Nat), R.length = n → (∀ i, i < ops.length → (i ∈ R ↔ memN i acc = false)) → R.Nodup → pairsM ops pu R = true → orderM ops acc R = true → l ∈ ordsGo ops n acc →
    ∃ l', l = acc.reverse ++ l' ∧ ∀ st, aopsM P T ops Q pu R st → aops P T ops Q l' st := by
  intro n
  induction n with
  | zero =>
    intro R acc l hn _ _ _ _ hl
    simp only [ordsGo, List.mem_singleton] at hl
    obtain rfl := List.eq_nil_of_length_eq_zero hn
    exact ⟨[], by simp [hl], fun st h => h⟩
  | succ n ih =>
    intro R acc l hn hR hnd hp ho hl
    simp only [ordsGo] at hl
    have hne : readyL ops acc ≠ [] := by
      cases R with
      | nil => cases hn
      | cons h R =>
        intro he
        simp only [orderM, Bool.and_eq_true] at ho
        cases hoh : ops[h]? with
        | none => rw [hoh] at ho; exact absurd ho.1 (by simp)
        | some o =>
          rw [hoh] at ho
          have hlt : h < ops.length := (List.getElem?_eq_some_iff.mp hoh).1
          have hm : h ∈ readyL ops acc := by
            unfold readyL
            rw [List.mem_filter]
            refine ⟨List.mem_range.mpr hlt, ?_⟩
            rw [(hR h hlt).mp (List.mem_cons_self ..), hoh]
            simpa using ho.1
          rw [he] at hm; cases hm
    cases hrd : readyL ops acc with
    | nil => exact absurd hrd hne
    | cons j rs =>
      rw [hrd] at hl
      simp only at hl
      obtain ⟨x, hx, hl⟩ := List.mem_flatMap.mp hl
      rw [← hrd] at hx
      unfold readyL at hx
      rw [List.mem_filter] at hx
      obtain ⟨hx1, hx2⟩ := hx
      have hlt := List.mem_range.mp hx1
      rw [Bool.and_eq_true, Bool.not_eq_true'] at hx2
      obtain ⟨hxa, hxe⟩ := hx2
      cases hox : ops[x]? with
      | none => rw [hox] at hxe; cases hxe
      | some ox =>
        rw [hox] at hxe
        simp only [List.all_eq_true, Bool.or_eq_true, Bool.not_eq_true'] at hxe
        have hxR := (hR x hlt).mpr hxa
        obtain ⟨R1, R2, rfl⟩ := List.append_of_mem hxR
        have hbind : ∀ y ∈ R1, bindsB ox y = false := by
          intro y hy
          cases hc : bindsB ox y with
          | false => rfl
          | true =>
            simp only [bindsB, List.any_eq_true, Bool.and_eq_true] at hc
            obtain ⟨e, he, hbe, hey⟩ := hc
            obtain rfl := Nat.eq_of_beq_eq_true hey
            rcases hxe e he with h | h
            · rw [hbe] at h; cases h
            · by_cases hlo : e.on < ops.length
              · have := (hR e.on hlo).mp (by simp [hy])
                rw [h] at this; cases this
              · exfalso
                -- what stands in the order is an operation
                have : ∀ (R acc : List Nat), orderM ops acc R = true → ∀ z ∈ R, z < ops.length := by
                  intro R
                  induction R with
                  | nil => intro _ _ z hz; cases hz
                  | cons z0 R ihR =>
                    intro acc h z hz
                    simp only [orderM, Bool.and_eq_true] at h
                    rcases List.mem_cons.mp hz with rfl | hz
                    · cases ho : ops[z]? with
                      | none => rw [ho] at h; exact absurd h.1 (by simp)
                      | some o => exact (List.getElem?_eq_some_iff.mp ho).1
                    · exact ihR _ h.2 z hz
                exact hlo (this _ _ ho e.on (by simp [hy]))
        have hnd' : (R1 ++ R2).Nodup ∧ x ∉ R1 ++ R2 := by
          have h1 : (x :: (R1 ++ R2)).Nodup := (List.perm_middle.nodup_iff).mp hnd
          rw [List.nodup_cons] at h1
          exact ⟨h1.2, h1.1⟩
        obtain ⟨l', rfl, hl'⟩ := ih (R1 ++ R2) (x :: acc) l (by simp at hn ⊢; omega) (fun i hi => by
          have h0 := hR i hi
          simp only [List.mem_append, List.mem_cons] at h0 ⊢
          simp only [memN, Bool.or_eq_false_iff]
          constructor
          · intro hm
            refine ⟨beqN_ne (fun e => hnd'.2 (by subst e; simpa using hm)), h0.mp (hm.elim .inl (fun h => .inr (.inr h)))⟩
          · rintro ⟨h1, h2⟩
            rcases h0.mpr h2 with h | h | h
            · exact .inl h
            · subst h; rw [Nat.beq_refl] at h1; cases h1
            · exact .inr h) hnd'.1 (pairsM_del hp) (orderM_del ho) hl
        refine ⟨x :: l', by simp, fun st h => ?_⟩
        have h1 := aopsM_front hQ hox R1 R2 st hp hbind h
        obtain ⟨hg, h2⟩ := stepM_stepK (T := T) (stepM_imp h1 fun s hs => hl' s hs)
        simp only [aops, hox, hg]
        exact h2

def nodupB : List Nat → Bool
  | [] => true
  | x :: l => !memN x l && nodupB l
theorem nodupB_ok : ∀ {l : List Nat}, nodupB l = true → l.Nodup := by
  intro l
  induction l with
  | nil => intro _; exact List.nodup_nil
  | cons x l ih =>
    intro h
    simp only [nodupB, Bool.and_eq_true, Bool.not_eq_true'] at h
    rw [List.nodup_cons]
    refine ⟨fun hm => ?_, ih h.2⟩
    rw [memN_iff.mpr hm] at h
    cases h.1
/-- A drawn region with calls that write: by one order. -/
theorem awp_mixed (hT : T.ok P = true) (hmix : P.follows .mixedOrders = true) {id : Nat} {ops : Array Oper} (pu R : List Nat) (hR : (nodupB R && R.length == ops.toList.length && (List.range ops.toList.length).all (fun i => memN i R) && pairsM ops.toList pu R && orderM ops.toList [] R) = true)
    (hQ : ∀ r nt s s' H U X, Q (.panic r) ⟨nt, s, H, U, X⟩ → Q (.panic r) ⟨nt, s', H, U, X⟩) (h : aopsM P T ops.toList Q pu R st) : AWP P (.region id ops true) Q st := by
  simp only [Bool.and_eq_true, beq_iff_eq] at hR
  obtain ⟨⟨⟨⟨hnb, hlen⟩, hall⟩, hp⟩, ho⟩ := hR
  rw [List.all_eq_true] at hall
  have hin : ∀ i, i < ops.toList.length → i ∈ R := fun i hi => memN_iff.mp (hall i (List.mem_range.mpr hi))
  have hnd : R.Nodup := nodupB_ok hnb
  refine awp_orders hT hmix (L := ordsGo ops.toList ops.toList.length []) rfl ?_
  have key : ∀ l ∈ ordsGo ops.toList ops.toList.length [], aops P T ops.toList Q l st := fun l hl => by
    obtain ⟨l', rfl, h'⟩ := orders_all (P := P) (T := T) hQ _ R [] l hlen (fun i hi => ⟨fun _ => rfl, fun _ => hin i hi⟩) hnd hp ho hl
    exact h' st h
  generalize ordsGo ops.toList ops.toList.length [] = L at key
  clear h
  induction L with
  | nil => trivial
  | cons x L ih =>
    cases L with
    | nil => exact key x (List.mem_cons_self ..)
    | cons z L => exact ⟨key x (List.mem_cons_self ..), ih fun l hl => key l (List.mem_cons_of_mem _ hl)⟩

/-- A piece, and one state behind it for all its ways. -/
theorem awp_pieceM (hT : T.ok P = true) (hmix : P.follows .mixedOrders = true) {x y : Code} (S : ASt) (F : Prop) (h : ∀ K : ASt → Prop, (∀ s, F → SubS s S → K s) → ex P T x (seqQ K Q) st) (hr : F → AWP P y Q S) : AWP P (.seq x y) Q st :=
  awp_piece hT hmix (h _ fun _ hF hs => AWP.sub hs (hr hF))
/-- A piece, and a family of states behind it. -/
theorem awp_pieceX (hT : T.ok P = true) (hmix : P.follows .mixedOrders = true) {x y : Code} {α : Type} (S : α → ASt) (F : α → Prop) (h : ∀ K : ASt → Prop, (∀ s a, F a → SubS s (S a) → K s) → ex P T x (seqQ K Q) st) (hr : ∀ a, F a → AWP P y Q (S a)) : AWP P (.seq x y) Q st :=
  awp_piece hT hmix (h _ fun _ a hF hs => AWP.sub hs (hr a hF))
/-- The same, for a piece that is walked by pieces. -/
theorem awp_cut {x y : Code} {α : Type} (S : α → ASt) (F : α → Prop) (h : ∀ K : ASt → Prop, (∀ s a, F a → SubS s (S a) → K s) → AWP P x (seqQ K Q) st) (hr : ∀ a, F a → AWP P y Q (S a)) : AWP P (.seq x y) Q st :=
  awp_seq (h _ fun _ a hF hs => AWP.sub hs (hr a hF))
end
end Go.AM

namespace Go.AM
open Go Go.RowKit

/-- A map's entries. -/
def mpO (g : Nat) (l : List (AV × AV)) : AO := ⟨l.length, g, 0, 0, fun i j => match j with | 0 => (l.getD i (.nilS, .nilS)).1 | _ => (l.getD i (.nilS, .nilS)).2⟩
theorem mpLe {H : Heap} {B : List Nat} {U : List (Nat × Nat)} {o : AO} {g : Nat} {l : List (AV × AV)} (e1 : o.E = l.length) (e2 : o.gen = g) (e3 : o.sz = 0) (e4 : o.n = 0) (h : ∀ i j, (i < l.length ∨ i < 2) → j < 2 → VLe H B U (o.f i j) ((mpO g l).f i j)) : ObLe H B U o (mpO g l) :=
  ⟨e1.symm, e2.symm, e3, rfl, e4, rfl, fun i j hi hj => h i j (by rw [e1] at hi; exact hi) hj⟩
theorem mpLe0 {H : Heap} {B : List Nat} {U : List (Nat × Nat)} {o : AO} {g : Nat} (e1 : o.E = 0) (e2 : o.gen = g) (e3 : o.sz = 0) (e4 : o.n = 0) (h : ∀ i j, i < 2 → j < 2 → o.f i j = .nilS) : ObLe H B U o (mpO g []) :=
  mpLe e1 e2 e3 e4 fun i j hi hj => by
    have hi2 : i < 2 := by
      rcases hi with h | h
      · exact absurd h (Nat.not_lt_zero i)
      · exact h
    rw [h i j hi2 hj]
    match j, hj with
    | 0, _ => exact .nils
    | 1, _ => exact .nils

theorem mpO_f0 {g : Nat} {l : List (AV × AV)} {i : Nat} : (mpO g l).f i 0 = (l.getD i (.nilS, .nilS)).1 := rfl
theorem mpO_f1 {g : Nat} {l : List (AV × AV)} {i : Nat} : (mpO g l).f i 1 = (l.getD i (.nilS, .nilS)).2 := rfl

/-- Entries told one by one. -/
theorem mpLeM {H : Heap} {B : List Nat} {U : List (Nat × Nat)} {g : Nat} {α : Type} {l : List α} {p q : α → AV × AV} (h : ∀ a ∈ l, VLe H B U (p a).1 (q a).1 ∧ VLe H B U (p a).2 (q a).2) : ObLe H B U (mpO g (l.map p)) (mpO g (l.map q)) := by
  refine mpLe (by simp [mpO]) rfl rfl rfl fun i j _ hj => ?_
  by_cases hl : i < l.length
  · have e1 : (l.map p).getD i (.nilS, .nilS) = p l[i] := by rw [List.getD_eq_getElem?_getD, List.getElem?_map, List.getElem?_eq_getElem hl]; rfl
    have e2 : (l.map q).getD i (.nilS, .nilS) = q l[i] := by rw [List.getD_eq_getElem?_getD, List.getElem?_map, List.getElem?_eq_getElem hl]; rfl
    obtain ⟨h1, h2⟩ := h l[i] (List.getElem_mem hl)
    match j, hj with
    | 0, _ => rw [mpO_f0, mpO_f0, e1, e2]; exact h1
    | 1, _ => rw [mpO_f1, mpO_f1, e1, e2]; exact h2
  · have e1 : (l.map p).getD i (.nilS, .nilS) = (.nilS, .nilS) := by rw [List.getD_eq_getElem?_getD, List.getElem?_eq_none (by simp; omega)]; rfl
    have e2 : (l.map q).getD i (.nilS, .nilS) = (.nilS, .nilS) := by rw [List.getD_eq_getElem?_getD, List.getElem?_eq_none (by simp; omega)]; rfl
    match j, hj with
    | 0, _ => rw [mpO_f0, mpO_f0, e1, e2]; exact .nils
    | 1, _ => rw [mpO_f1, mpO_f1, e1, e2]; exact .nils
/-- One entry more. -/
theorem mpLeS {H : Heap} {B : List Nat} {U : List (Nat × Nat)} {g : Nat} {α : Type} {l : List α} {p q : α → AV × AV} {a : α} {o : AO} (e1 : o.E = l.length + 1) (e2 : o.gen = g) (e3 : o.sz = 0) (e4 : o.n = 0) {k v : AV} {f0 : Nat → Nat → AV} (hf : o.f = pushV f0 l.length k v) (hf0 : f0 = (mpO g (l.map p)).f)
    (h : ∀ a ∈ l, VLe H B U (p a).1 (q a).1 ∧ VLe H B U (p a).2 (q a).2) (h1 : VLe H B U k (q a).1) (h2 : VLe H B U v (q a).2) : ObLe H B U o (mpO g ((l ++ [a]).map q)) := by
  refine mpLe (by rw [e1]; simp) e2 e3 e4 fun i j _ hj => ?_
  rw [hf]
  by_cases hl : i < l.length
  · have q1 : ((l ++ [a]).map q).getD i (.nilS, .nilS) = q l[i] := by rw [List.getD_eq_getElem?_getD, List.getElem?_map, List.getElem?_append_left hl, List.getElem?_eq_getElem hl]; rfl
    have q2 : (l.map p).getD i (.nilS, .nilS) = p l[i] := by rw [List.getD_eq_getElem?_getD, List.getElem?_map, List.getElem?_eq_getElem hl]; rfl
    have q3 : ∀ j, pushV f0 l.length k v i j = f0 i j := fun j => by unfold pushV; rw [beqN_ne (Nat.ne_of_lt hl)]; rfl
    obtain ⟨h3, h4⟩ := h l[i] (List.getElem_mem hl)
    rw [q3, hf0]
    match j, hj with
    | 0, _ => rw [mpO_f0, mpO_f0, q1, q2]; exact h3
    | 1, _ => rw [mpO_f1, mpO_f1, q1, q2]; exact h4
  · by_cases he : i = l.length
    · subst he
      have q1 : ((l ++ [a]).map q).getD l.length (.nilS, .nilS) = q a := by rw [List.getD_eq_getElem?_getD, List.getElem?_map, List.getElem?_append_right (Nat.le_refl _), Nat.sub_self]; rfl
      match j, hj with
      | 0, _ => rw [mpO_f0, q1]; unfold pushV; rw [Nat.beq_refl]; exact h1
      | 1, _ => rw [mpO_f1, q1]; unfold pushV; rw [Nat.beq_refl]; exact h2
    · have q1 : ((l ++ [a]).map q).getD i (.nilS, .nilS) = (.nilS, .nilS) := by rw [List.getD_eq_getElem?_getD, List.getElem?_eq_none (by simp; omega)]; rfl
      have q2 : (l.map p).getD i (.nilS, .nilS) = (.nilS, .nilS) := by rw [List.getD_eq_getElem?_getD, List.getElem?_eq_none (by simp; omega)]; rfl
      have q3 : ∀ j, pushV f0 l.length k v i j = f0 i j := fun j => by unfold pushV; rw [beqN_ne he]; rfl
      rw [q3, hf0]
      match j, hj with
      | 0, _ => rw [mpO_f0, mpO_f0, q1, q2]; exact .nils
      | 1, _ => rw [mpO_f1, mpO_f1, q1, q2]; exact .nils

/-- A family of N rows, named from 200 on. -/
def fam (N : Nat) (G : Nat → AO) : List (Nat × AO) := (List.range N).map fun m => (200 + m, G m)
def famR (N : Nat) (u : Nat → Nat) (p : Nat → Bool) : List (Nat × Nat) := ((List.range N).filter p).map fun m => (200 + m, u m)

theorem lookL_append {α : Type} {l l' : List (Nat × α)} {i : Nat} : lookL (l ++ l') i = match lookL l i with | some v => some v | none => lookL l' i := by
  induction l with
  | nil => rfl
  | cons q l ih =>
    obtain ⟨a, v⟩ := q
    simp only [List.cons_append, lookL]
    cases Nat.beq i a with
    | true => rfl
    | false => exact ih
theorem lookL_map {α : Type} {l : List Nat} {f : Nat → α} {m : Nat} : lookL (l.map fun m => (200 + m, f m)) (200 + m) = if m ∈ l then some (f m) else none := by
  induction l with
  | nil => rfl
  | cons a l ih =>
    simp only [List.map_cons, lookL]
    by_cases h : m = a
    · subst h; rw [Nat.beq_refl, if_pos (List.mem_cons_self ..)]; rfl
    · rw [beqN_ne (by omega)]
      show lookL _ _ = _
      rw [ih]
      simp [h]
theorem lookL_map_lt {α : Type} {l : List Nat} {f : Nat → α} {i : Nat} (h : i < 200) : lookL (l.map fun m => (200 + m, f m)) i = none := by
  induction l with
  | nil => rfl
  | cons a l ih =>
    simp only [List.map_cons, lookL]
    rw [beqN_ne (by omega)]; exact ih
theorem lookL_map_some {α : Type} {l : List Nat} {f : Nat → α} {i : Nat} {v : α} (h : lookL (l.map fun m => (200 + m, f m)) i = some v) : ∃ m ∈ l, i = 200 + m ∧ v = f m := by
  have := lookL_mem h
  obtain ⟨m, hm, e⟩ := List.mem_map.mp this
  injection e with e1 e2
  exact ⟨m, hm, e1.symm, e2.symm⟩
theorem lookL_lt {α : Type} {l : List (Nat × α)} (h : ∀ q ∈ l, q.1 < 200) {m : Nat} : lookL l (200 + m) = none := by
  cases hc : lookL l (200 + m) with
  | none => rfl
  | some v => have := h _ (lookL_mem hc); simp at this; omega
/-- All rows' names lie below the family's. -/
def low {α : Type} (l : List (Nat × α)) : Bool := l.all fun q => Nat.ble (q.1 + 1) 200
theorem low_out {α : Type} {l : List (Nat × α)} (h : low l = true) : ∀ q ∈ l, q.1 < 200 := fun q hq => by
  simp only [low, List.all_eq_true] at h
  exact Nat.le_of_ble_eq_true (h q hq)
theorem famR_look {UA : List (Nat × Nat)} {N m : Nat} {u : Nat → Nat} {p : Nat → Bool} (hl : low UA = true) (hm : m < N) (hp : p m = true) : lookL (UA ++ famR N u p) (200 + m) = some (u m) := by
  rw [lookL_append, lookL_lt (low_out hl)]
  show lookL (famR N u p) _ = _
  unfold famR
  rw [lookL_map, if_pos (List.mem_filter.mpr ⟨List.mem_range.mpr hm, hp⟩)]
theorem famR_none {UA : List (Nat × Nat)} {N m : Nat} {u : Nat → Nat} {p : Nat → Bool} (hl : low UA = true) (hp : p m = false) : lookL (UA ++ famR N u p) (200 + m) = none := by
  rw [lookL_append, lookL_lt (low_out hl)]
  show lookL (famR N u p) _ = _
  unfold famR
  rw [lookL_map, if_neg fun h => by rw [(List.mem_filter.mp h).2] at hp; cases hp]
theorem famR_head {UA : List (Nat × Nat)} {N i j : Nat} {u : Nat → Nat} {p : Nat → Bool} (h : lookL UA i = some j) : lookL (UA ++ famR N u p) i = some j := by
  rw [lookL_append, h]
/-- A heap that bears the family. -/
def HFam (N : Nat) (H : Heap) (G : Nat → AO) : Prop := ∀ m, m < N → H (200 + m) = some (G m)
theorem HFam.base {N : Nat} {A : List (Nat × AO)} {G : Nat → AO} (h : low A = true) : HFam N (lookL (A ++ fam N G)) G := fun m hm => by
  rw [lookL_append, lookL_lt (low_out h)]
  show lookL (fam N G) _ = _
  unfold fam
  rw [lookL_map, if_pos (List.mem_range.mpr hm)]
theorem HFam.upd {N : Nat} {H : Heap} {G : Nat → AO} {k : Nat} {o : AO} (h : HFam N H G) (hk : Nat.ble (k + 1) 200 = true) : HFam N (updF H k o) G := fun m hm => by
  rw [updF_ne _ _ (by have := Nat.le_of_ble_eq_true hk; omega)]; exact h m hm
theorem AllH.append {st : ASt} {B : List Nat} {U : List (Nat × Nat)} : ∀ {l l' : List (Nat × AO)}, AllH st B U l → AllH st B U l' → AllH st B U (l ++ l')
  | [], _, _, h' => h'
  | (_, _) :: _, _, h, h' => ⟨h.1, AllH.append h.2 h'⟩
theorem AllH.map {st : ASt} {B : List Nat} {U : List (Nat × Nat)} {G : Nat → AO} : ∀ {l : List Nat}, (∀ m ∈ l, AllH st B U [(200 + m, G m)]) → AllH st B U (l.map fun m => (200 + m, G m))
  | [], _ => trivial
  | m :: _, h => ⟨(h m (List.mem_cons_self ..)).1, AllH.map fun k hk => h k (List.mem_cons_of_mem _ hk)⟩
theorem keysL_append {α : Type} {l l' : List (Nat × α)} : keysL (l ++ l') = keysL l ++ keysL l' := by
  induction l with
  | nil => rfl
  | cons q l ih => obtain ⟨a, v⟩ := q; simp only [List.cons_append, keysL, ih]
theorem keysL_fam {N : Nat} {G : Nat → AO} {m : Nat} (h : m < N) : 200 + m ∈ keysL (fam N G) := by
  have : ∀ l : List Nat, m ∈ l → 200 + m ∈ keysL (l.map fun m => (200 + m, G m)) := by
    intro l
    induction l with
    | nil => intro h; cases h
    | cons a l ih =>
      intro h
      simp only [List.map_cons, keysL]
      rcases List.mem_cons.mp h with rfl | h
      · exact List.mem_cons_self ..
      · exact List.mem_cons_of_mem _ (ih h)
  exact this _ (List.mem_range.mpr h)
/-- Names anew, with a family: the head's by UA, the family's by u where p. -/
theorem SubS.mkF {st : ASt} {n N : Nat} {s : List (Nat × AV)} {A : List (Nat × AO)} {G : Nat → AO} (B : List Nat) (UA : List (Nat × Nat)) (u : Nat → Nat) (p : Nat → Bool) (hi : injR UA = true) (hk : keysIn UA (keysL A) = true) (_hl : low UA = true)
    (hu : ∀ m k, m < N → k < N → p m = true → p k = true → u m = u k → m = k) (hd : ∀ q ∈ UA, ∀ m, m < N → p m = true → q.2 ≠ u m) (hn : n = st.nt) (hs : AllS st B (UA ++ famR N u p) s) (hA : AllH st B (UA ++ famR N u p) A)
    (hG : ∀ m, m < N → AllH st B (UA ++ famR N u p) [(200 + m, G m)]) (hx : st.x = X0 := by rfl) : SubS st (mkSt n s (A ++ fam N G)) := by
  have hcase : ∀ i j, lookL (UA ++ famR N u p) i = some j → (lookL UA i = some j) ∨ (∃ m, m < N ∧ p m = true ∧ i = 200 + m ∧ j = u m) := fun i j h => by
    rw [lookL_append] at h
    cases hc : lookL UA i with
    | some v => rw [hc] at h; exact .inl h
    | none =>
      rw [hc] at h
      obtain ⟨m, hm, e1, e2⟩ := lookL_map_some h
      obtain ⟨h1, h2⟩ := List.mem_filter.mp hm
      exact .inr ⟨m, List.mem_range.mp h1, h2, e1, e2⟩
  refine SubS.mkR B (UA ++ famR N u p) (fun i1 i2 j h1 h2 => ?_) (fun i j h => ?_) hn hs (AllH.append hA (AllH.map fun m hm => hG m (List.mem_range.mp hm))) hx
  · rcases hcase _ _ h1 with c1 | ⟨m, hm, pm, rfl, rfl⟩
    · rcases hcase _ _ h2 with c2 | ⟨k, hk, pk, rfl, e⟩
      · exact injR_out hi _ _ _ c1 c2
      · exact absurd e (hd _ (lookL_mem c1) k hk pk)
    · rcases hcase _ _ h2 with c2 | ⟨k, hk, pk, rfl, e⟩
      · exact absurd rfl (hd _ (lookL_mem c2) m hm pm)
      · rw [hu m k hm hk pm pk e]
  · rw [memN_iff, keysL_append, List.mem_append]
    rcases hcase _ _ h with c | ⟨m, hm, _, rfl, _⟩
    · exact .inl (memN_iff.mp (keysIn_out hk c))
    · exact .inr (keysL_fam hm)
end Go.AM
