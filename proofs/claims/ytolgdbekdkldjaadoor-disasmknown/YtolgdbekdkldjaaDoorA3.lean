/- Part of the proof: an abstract machine, what is read of arguments, rows and growth, and that they are sound. -/
import Derived.Test.YtolgdbekdkldjaaDoorA2
import Derived.OpenShut
import Derived.ProofKit
import Derived.Deep.Slices
import Derived.WideKeyArgs
import Derived.ChangeSame
namespace Go.AM
open Go Go.RowKit

/-- The elements are these integers. -/
def IsL (f : Nat → Nat → AV) (k : IntKind) (L : List Int) : Prop := ∀ i, i < L.length → f i 0 = .pv (.int k (L.getD i 0))

theorem IsL.nil {f : Nat → Nat → AV} {k : IntKind} : IsL f k [] := fun i hi => absurd hi (by simp)
theorem IsL.one {f : Nat → Nat → AV} {k : IntKind} {a : Int} (h : f 0 0 = .pv (.int k a)) : IsL f k [a] := fun i hi => by
  have : i = 0 := by simp at hi; omega
  subst this; exact h
theorem IsL.seq {k : IntKind} {L : List Int} : IsL (fun i _ => .pv (.int k (L.getD i 0))) k L := fun _ _ => rfl
theorem IsL.cat {f g : Nat → Nat → AV} {k : IntKind} {L M : List Int} {n : Nat} (hf : IsL f k L) (hg : IsL g k M) (hn : n = L.length) : IsL (catF f g n) k (L ++ M) := by
  intro i hi
  simp only [List.length_append] at hi
  unfold catF
  by_cases h : i < L.length
  · rw [Nat.ble_eq_true_of_le (by omega : i + 1 ≤ n)]
    simp only [cond_true]
    rw [hf i h, List.getD_eq_getElem?_getD, List.getD_eq_getElem?_getD, List.getElem?_append_left h]
  · have : Nat.ble (i + 1) n = false := by
      cases hc : Nat.ble (i + 1) n with
      | true => have := Nat.le_of_ble_eq_true hc; omega
      | false => rfl
    rw [this]
    simp only [cond_false]
    rw [hg (i - n) (by omega), List.getD_eq_getElem?_getD, List.getD_eq_getElem?_getD, List.getElem?_append_right (by omega), hn]

theorem IsL.cat' {F f g : Nat → Nat → AV} {k : IntKind} {K : List Int} {n : Nat} (L M : List Int) (hK : K = L ++ M) (hF : F = catF f g n) (hn : n = L.length) (hf : IsL f k L) (hg : IsL g k M) : IsL F k K := by
  subst hK; subst hF; exact hf.cat hg hn

section
variable {H : Heap} {B : List Nat} {U : List (Nat × Nat)}

theorem VLe.frzL {id gen sz off len : Nat} {E : TypeId} {k : IntKind} {L : List Int} (o : AO) (hb : memN id B = true) (ho : H id = some o) (hg : gen = o.gen) (h1 : sz = 1) (hs : o.sz = 1) (hn : off + len ≤ o.n) (hl : len = L.length)
    (h : IsL (fun i j => o.f (off + i) j) k L) : VLe H B U (.row id gen sz off len) (.pv (sq E k L)) := by
  subst hl; subst h1
  refine .frz id gen 1 off _ o E _ hb ho hg hs.symm hn fun i j hi hj => ?_
  have hj0 : j = 0 := by omega
  subst hj0
  have := h i hi
  simp only at this
  rw [this]
  exact .same
theorem VLe.frz0 {id gen sz len : Nat} {E : TypeId} {k : IntKind} {L : List Int} (o : AO) (hb : memN id B = true) (ho : H id = some o) (hg : gen = o.gen) (h1 : sz = 1) (hs : o.sz = 1) (hn : len ≤ o.n) (hl : len = L.length)
    (h : IsL o.f k L) : VLe H B U (.row id gen sz 0 len) (.pv (sq E k L)) :=
  VLe.frzL o hb ho hg h1 hs (by omega) hl (fun i hi => by have := h i hi; simpa using this)
/-- A slice that is only read, said as a list. -/
theorem VLe.seqL {sz n : Nat} {E E' : TypeId} {k : IntKind} {L : List Int} {f : Nat → Nat → PV} (h1 : sz = 1) (hl : n = L.length) (h : ∀ i, i < L.length → f i 0 = .int k (L.getD i 0)) : VLe H B U (.pv (.seq E sz n f)) (.pv (sq E' k L)) := by
  subst hl; subst h1
  refine .pv _ _ (.seq _ _ _ _ _ _ fun i j hi hj => ?_)
  have hj0 : j = 0 := by omega
  subst hj0
  rw [h i hi]
  exact .refl _
theorem VLe.nilL {E : TypeId} {k : IntKind} : VLe H B U .nilS (.pv (sq E k [])) := .nil _ _ _

/-- A row that holds a list. -/
def rowL (E : TypeId) (k : IntKind) (gen : Nat) (L : List Int) : AO := ⟨E, gen, 1, L.length, fun i _ => .pv (.int k (L.getD i 0))⟩
theorem OLe.rowL {o : AO} {E : TypeId} {k : IntKind} {gen : Nat} {L : List Int} (hE : E = o.E) (hg : gen = o.gen) (hs : o.sz = 1) (hn : L.length ≤ o.n) (h : IsL o.f k L) : OLe H B U o (rowL E k gen L) := by
  refine ⟨hE, hg, hs.symm, hn, fun i j hi hj => ?_⟩
  have hj0 : j = 0 := by omega
  subst hj0
  rw [h i hi]
  exact .same
end

theorem nle {a b : Nat} (h : Nat.ble a b = true) : a ≤ b := Nat.le_of_ble_eq_true h

end Go.AM

namespace Go.AM
open Go Go.RowKit

/-- These blocks lie as they lay. -/
structure KeepW (Y : Blocks) (W W' : World) : Prop where
  os : W'.os = W.os
  tape : W'.tape = W.tape
  output : W'.output = W.output
  size : W.heap.size ≤ W'.heap.size
  same : ∀ b, Y b → W'.heap[b]? = W.heap[b]?
  sizes : ∀ b, bsize W b ≤ bsize W' b

/-- What the caller of an iterator knows: what has come, whether it has said to stop, and which blocks are not its own. -/
abbrev JT := List (List AV) → Bool → Blocks → World → Prop

def Stab (J : JT) : Prop := ∀ pre stop X W W', J pre stop X W → KeepW (fun b => b < W.heap.size ∧ ¬ X b) W W' → J pre stop (fun b => X b ∨ (W.heap.size ≤ b ∧ b < W'.heap.size)) W'

/-- g, called with a yield, hands to it what is valid, and all that is full if it is not told to stop. -/
def IterCall (P : Program) (g : FuncId) (caps : List AV) (valid full : List (List AV) → Prop) : Prop :=
  enters P g = true ∧ ∀ (l : Nat) (w : World) (M : Blocks) (ys : Array Value) (J : JT), (∀ b, M b → b < w.heap.size) → EnvM P w M → ArgsAre noNames w M caps ys → Stab J →
    (∀ pre x vals X W, J pre false X W → valid (pre ++ [x]) → FlatAre x vals → (∀ b, X b → w.heap.size ≤ b ∧ b < W.heap.size) → YieldAt Fence.wide 0 P l vals W fun e W' =>
      ∃ stop, e = .returned (.bool (!stop)) ∧ J (pre ++ [x]) stop X W' ∧ KeepW (fun b => X b ∨ M b) W W') →
    J [] false (fun _ => False) w →
    Calls P g (#[.func (.yield l) #[] #[]] ++ ys) w fun e w' => (∃ v, e = .returned v) ∧ ∃ pre stop X, (stop = false → full pre) ∧ J pre stop X w' ∧ ∀ b, X b → w.heap.size ≤ b ∧ b < w'.heap.size

def KI (P : Program) (l : Nat) (valid : List (List AV) → Prop) (n : Nat) (M : Blocks) (J : JT) : Ctx :=
  ⟨none, some l, valid, fun _ => none, fun log stop C => J log stop C.own C.w ∧ C.M = M ∧ (∀ b, C.own b → n ≤ b ∧ b < C.w.heap.size) ∧ (C.no = fun _ => False) ∧ n ≤ C.w.heap.size ∧ EnvOK P C⟩

def stI (n l : Nat) (caps : List AV) (valid : List (List AV) → Prop) : ASt :=
  ⟨n, argS (.func (.yield l) 0 (fun _ => .nilS) 0 (fun _ => .nilS) :: caps) 0, fun _ => none, [], ⟨some l, valid, [], false, fun _ => none, false⟩⟩

def finI (T : Tab) (rs : List ResultVar) (full : List (List AV) → Prop) : APost := fun e st =>
  match e with
  | .normal => finK T rs st fun _ => st.x.stop = false → full st.x.log
  | .ret => finK T rs st fun _ => st.x.stop = false → full st.x.log
  | _ => False

section
variable {P : Program} {K : Ctx} {C : Came} {φ φ' : Names} {M M' : Blocks} {H : Heap} {w w' : World} {T : Tab} {st : ASt} {a : Act}

theorem KI_ok {l n : Nat} {valid : List (List AV) → Prop} {J : JT} (hst : Stab J)
    (hy : ∀ pre x vals X W, J pre false X W → valid (pre ++ [x]) → FlatAre x vals → (∀ b, X b → n ≤ b ∧ b < W.heap.size) → YieldAt Fence.wide 0 P l vals W fun e W' =>
      ∃ stop, e = .returned (.bool (!stop)) ∧ J (pre ++ [x]) stop X W' ∧ KeepW (fun b => X b ∨ M b) W W') : (KI P l valid n M J).ok P := by
  refine ⟨fun _ _ _ h => h.2.2.2.2.2, ?_⟩
  intro l' hl pre x vals C φ Mi H U W hΓ hm hval hfl
  have hl : some l = some l' := hl
  obtain rfl := Option.some.inj hl
  obtain ⟨hJ, hM, hlt, hno, hnl, henv⟩ := hΓ
  let X' : Blocks := fun b => C.own b ∨ (C.w.heap.size ≤ b ∧ b < W.heap.size)
  have hX : ∀ b, X' b → n ≤ b ∧ b < W.heap.size := by
    rintro b (h | h)
    · exact ⟨(hlt b h).1, Nat.lt_of_lt_of_le (hlt b h).2 hm.size⟩
    · exact ⟨Nat.le_trans hnl h.1, h.2⟩
  have hJ1 : J pre false X' W := hst _ _ _ _ W hJ ⟨hm.os, hm.tape, hm.output, hm.size, fun b hb => hm.frame b hb.1 hb.2, hm.sizes⟩
  obtain ⟨fn, tmps, assign, body, hyr, hr⟩ := hy pre x vals X' W hJ1 hval hfl hX
  refine ⟨fn, tmps, assign, body, hyr, hr.mono fun e W' hq => ?_⟩
  obtain ⟨stop, he, hJ', hk⟩ := hq
  have hMi : ∀ b, Mi b → X' b ∨ M b := fun b hb => by
    rcases hm.reads b hb with h | h | h
    · rw [hM] at h; exact .inr h
    · exact .inl (.inl h)
    · exact .inl (.inr ⟨h, hm.heap.mlt b hb⟩)
  have hfr : ∀ id o b, H id = some o → φ id o.gen = some b → b < W.heap.size → X' b := fun id o b h1 h2 h3 => by
    rcases hm.fresh id o b h1 h2 with h | h
    · exact .inl h
    · exact .inr ⟨h, h3⟩
  have hXn : ∀ b, X' b → n ≤ b ∧ b < W'.heap.size := fun b hb => ⟨(hX b hb).1, Nat.lt_of_lt_of_le (hX b hb).2 hk.size⟩
  have henv' : EnvOK P ⟨W', X', M, fun _ => False⟩ := by
    have h1 := henv.at hm
    refine ⟨fun g hg => ?_, fun g hg => ?_⟩
    · obtain ⟨k1, k2, _⟩ := h1 g hg
      obtain ⟨q1, _, _⟩ := henv.1 g hg
      have q1 : M g := by rw [hM] at q1; exact q1
      exact ((h1.go (M' := fun b => Mi b) (fun _ h => h) (fun b hb _ => hk.same b (hMi b hb)) hk.size) g hg).imp (fun _ => q1) id
    · obtain ⟨q1, q2, _⟩ := henv.1 g hg
      exact fun hx => hx.elim (henv.2 g hg) (fun h => absurd q2 (Nat.not_lt.mpr h.1))
  refine ⟨stop, ⟨W', X', M, fun _ => False⟩, he, ⟨hJ', rfl, hXn, rfl, Nat.le_trans hnl (Nat.le_trans hm.size hk.size), henv'⟩, ?_, fun b hb => hk.same b (hMi b hb), hk.sizes, fun b hb hlt => hb.elim .inl (fun h => .inr ⟨h, hlt⟩)⟩
  exact { heap :=
            { own := fun id o ho => by
                rcases hm.heap.own id o ho with h0 | ⟨b, arr, fz, g1, g2, g3, g4, g5, g6, g7⟩
                · exact .inl h0
                · refine .inr ⟨b, arr, fz, g1, ?_, g3, g4, g5, g6, fun i j hi hj => (g7 i j hi hj).mono (fun _ _ _ h => h) (fun _ h => h) (fun b hb => hk.same b (hMi b hb)) hk.sizes⟩
                  rw [hk.same b (.inl (hfr id o b ho g1 (Array.getElem?_eq_some_iff.mp g2).1))]
                  exact g2
              inj := hm.heap.inj
              last := hm.heap.last
              mlt := fun b hb => Nat.lt_of_lt_of_le (hm.heap.mlt b hb) hk.size }
          used := hm.used
          dom := hm.dom
          os := rfl
          tape := rfl
          output := rfl
          size := Nat.le_refl _
          frame := fun _ _ _ => rfl
          fresh := fun id o b h1 h2 => .inl (hfr id o b h1 h2 (hm.nlt _ _ _ h2).1)
          reads := fun b hb => (hMi b hb).elim (fun h => .inr (.inl h)) .inl
          keeps := fun b hb => hm.keeps b (by rw [hM]; exact hb)
          sizes := fun _ => Nat.le_refl _
          nlt := fun i g b hb => ⟨Nat.lt_of_lt_of_le (hm.nlt i g b hb).1 hk.size, fun h => h⟩
          far := ⟨fun _ _ h => h, fun _ h => h.elim⟩ }

theorem IterCall.body {g : FuncId} {fn : Func} {c : Code} {caps : List AV} {valid full : List (List AV) → Prop} (hT : T.ok P = true) (hen : enters P g = true) (hf : P.funcs[g]? = some fn) (hb : fn.body = some c) {n : Nat} (hn : fn.ntmps = n)
    {rs : List ResultVar} (hrs : fn.results.toList = rs) (h : ∀ l, AWP P c (finI T rs full) (stI n l caps valid)) : IterCall P g caps valid full := by
  refine ⟨hen, fun l w M ys J hM henv ha hst hy h0 => ?_⟩
  refine calls_body hf hb ?_
  have hgood : Good (KI P l valid w.heap.size M J) noNames M (stI n l caps valid) { tmps := (#[Value.func (.yield l) #[] #[]] ++ ys) ++ Array.replicate (n - (#[Value.func (.yield l) #[] #[]] ++ ys).size) undef, defers := [] } w :=
    { slots := fun t v ht => by
        obtain ⟨h1, h2, h3⟩ := argS_get _ _ _ _ ht
        have hlt : t < caps.length + 1 := by simpa using h2
        cases t with
        | zero =>
          refine ⟨Value.func (.yield l) #[] #[], by simp [Array.getElem?_append], ?_⟩
          rw [← h3]
          exact .func _ _ _ _ _ _ _ rfl rfl (fun i hi => absurd hi (by simp)) (fun i hi => absurd hi (by simp))
        | succ t =>
          refine ⟨ys.getD t undef, ?_, by rw [← h3]; exact ha.2 t (by omega)⟩
          have : t < ys.size := by rw [ha.1]; omega
          simp [Array.getElem?_append, this, Array.getD_eq_getD_getElem?, Nat.add_comm 1]
      gslots := fun t v ht => (by cases ht)
      mem := ⟨⟨w, fun _ => False, M, fun _ => False⟩, ⟨h0, rfl, fun b hb => hb.elim, rfl, Nat.le_refl _, henv.ok (fun _ _ h => h)⟩,
        { heap := { own := fun id o h => (by simp [stI] at h), inj := fun _ _ _ _ _ h => (by simp [stI] at h), last := fun _ _ _ _ h => (by simp [stI] at h), mlt := hM }, used := fun _ _ _ h => (by simp [noNames] at h), dom := fun _ _ h => (by simp [stI] at h),
          os := rfl, tape := rfl, output := rfl, size := Nat.le_refl _, frame := fun _ _ _ => rfl, fresh := fun _ _ _ h => (by simp [stI] at h), reads := fun _ h => .inl h, keeps := fun _ h => h, sizes := fun _ => Nat.le_refl _,
          nlt := fun _ _ _ h => (by simp [noNames] at h), far := ⟨fun _ _ h => h, fun _ h => h.elim⟩ }, fun d hd => (by cases hd)⟩
      wide := (by simp [stI]; omega), yl := rfl, valid := rfl, dnd := List.nodup_nil, inr := rfl, rdd := fun _ => rfl }
  rw [hn]
  refine wpIn_mono (h l _ _ _ _ _ (KI_ok hst hy) hgood) fun e a w' hq => ?_
  obtain ⟨st, φ, M', hg, hq⟩ := hq
  have fin : (finK T rs st fun _ => st.x.stop = false → full st.x.log) → LeavesInM (fen none) 0 P fn a.tmps (fun e w' => (∃ v, e = .returned v) ∧ ∃ pre stop X, (stop = false → full pre) ∧ J pre stop X w' ∧ ∀ b, X b → w.heap.size ≤ b ∧ b < w'.heap.size) a.defers .returning w' := by
    intro hk
    refine leave_marks a.defers w' a rfl hg fun w2 hg2 => ?_
    obtain ⟨l', ys', hfull, h1, h2, h3, h4⟩ := finK_sound hT hg2 _ _ hk
    obtain ⟨x, hx, hr⟩ := results_of hrs h1 h2 h3 h4
    obtain ⟨C, hΓ, hm, _⟩ := hg2.mem
    obtain ⟨hJ, hCM, hlt, hno, hnl, _⟩ := hΓ
    refine ⟨x, hx, ⟨_, rfl⟩, st.x.log, st.x.stop, _, hfull, hst _ _ _ _ w2 hJ ⟨hm.os, hm.tape, hm.output, hm.size, fun b hb => hm.frame b hb.1 hb.2, hm.sizes⟩, ?_⟩
    rintro b (h | h)
    · exact ⟨(hlt b h).1, Nat.lt_of_lt_of_le (hlt b h).2 hm.size⟩
    · exact ⟨Nat.le_trans hnl h.1, h.2⟩
  cases e with
  | normal => exact fin hq
  | ret => exact fin hq
  | panic ch => obtain ⟨v, x, _, _, h⟩ := hq; exact h.elim
  | exit i => exact hq.elim
  | goto l => exact hq.elim
  | outgrown => exact hq.elim

theorem IterCall.run {g : FuncId} {fn : Func} {c : Code} {caps : List AV} {valid full : List (List AV) → Prop} (hT : T.ok P = true) (hmix : P.follows .mixedOrders = true) (hen : enters P g = true) (hf : P.funcs[g]? = some fn) (hb : fn.body = some c) {n : Nat} (hn : fn.ntmps = n)
    {rs : List ResultVar} (hrs : fn.results.toList = rs) (h : ∀ l, ex P T c (finI T rs full) (stI n l caps valid)) : IterCall P g caps valid full :=
  IterCall.body hT hen hf hb hn hrs fun l => ex_sound hT hmix _ _ _ (h l)

end
end Go.AM

namespace Go.AM
open Go Go.RowKit

/-- Between two rounds of the loop l: X are the iterator's blocks. -/
structure LoopS (C : Came) (φ : Names) (M Mc X : Blocks) (l : Nat) (st : ASt) (tm : Array Value) (df : List Deferred) (W : World) : Prop where
  slots : ∀ t v, st.slots t = some v → ∃ x, tm[t]? = some x ∧ Ra φ W M v x
  mem : Mem C φ M st.heap st.used W
  marks : ∀ d ∈ df, ∃ D, d = { target := .collected D, args := #[] } ∧ M D ∧ W.heap[D]? = some (.deferred (some [])) ∧ (C.own D ∨ C.w.heap.size ≤ D)
  noM : ∀ b, M b → ¬ X b ∧ b ≠ l
  noN : ∀ i g b, φ i g = some b → ¬ X b ∧ b ≠ l
  caps : ∀ b, Mc b → M b
  xlt : ∀ b, X b → l < b ∧ b < W.heap.size
  llt : C.w.heap.size ≤ l
  lin : l < W.heap.size

def others (C : Came) (X : Blocks) (l : Nat) : Blocks := fun b => C.no b ∨ X b ∨ b = l

section
variable {P : Program} {K : Ctx} {C : Came} {φ φ' : Names} {M M' Mc X N : Blocks} {H H' : Heap} {U U' : List Nat} {w w' : World} {T : Tab} {st st' : ASt} {l : Nat} {tm : Array Value} {df : List Deferred}

theorem Mem.row_lt (hm : Mem C φ M H U w) {id : Nat} {o : AO} {b : Nat} (_h1 : H id = some o) (h2 : φ id o.gen = some b) : b < w.heap.size := (hm.nlt _ _ _ h2).1

theorem Mem.self (hm : Mem C φ M H U w) (h1 : ∀ b, M b → ¬ N b) (h2 : ∀ i g b, φ i g = some b → ¬ N b) (h3 : ∀ b, N b → b < w.heap.size) : Mem ⟨w, ownOf φ H, M, N⟩ φ M H U w where
  heap := hm.heap
  used := hm.used
  dom := hm.dom
  os := rfl
  tape := rfl
  output := rfl
  size := Nat.le_refl _
  frame := fun _ _ _ => rfl
  fresh := fun id o _ h1 h2 => .inl ⟨id, o, h1, h2⟩
  reads := fun _ h => .inl h
  keeps := fun _ h => h
  sizes := fun _ => Nat.le_refl _
  nlt := fun i g b h => ⟨(hm.nlt i g b h).1, h2 i g b h⟩
  far := ⟨h1, h3⟩

theorem Mem.comp (hm : Mem C φ M H U w) (h2 : Mem ⟨w, ownOf φ H, M, N⟩ φ' M' H' U' w') (hN : ∀ b, C.no b → N b) : Mem C φ' M' H' U' w' where
  heap := h2.heap
  used := h2.used
  dom := h2.dom
  os := h2.os.trans hm.os
  tape := h2.tape.trans hm.tape
  output := h2.output.trans hm.output
  size := Nat.le_trans hm.size h2.size
  frame := fun b hb ho => by
    refine (h2.frame b (Nat.lt_of_lt_of_le hb hm.size) ?_).trans (hm.frame b hb ho)
    rintro ⟨id, o, k1, k2⟩
    rcases hm.fresh _ _ _ k1 k2 with h | h
    · exact ho h
    · omega
  fresh := fun id o b k1 k2 => by
    rcases h2.fresh _ _ _ k1 k2 with ⟨i2, o2, q1, q2⟩ | h
    · exact hm.fresh _ _ _ q1 q2
    · exact .inr (Nat.le_trans hm.size h)
  reads := fun b hb => by
    rcases h2.reads b hb with h | ⟨i2, o2, q1, q2⟩ | h
    · exact hm.reads b h
    · exact .inr (hm.fresh _ _ _ q1 q2)
    · exact .inr (.inr (Nat.le_trans hm.size h))
  keeps := fun b hb => h2.keeps b (hm.keeps b hb)
  sizes := fun b => Nat.le_trans (hm.sizes b) (h2.sizes b)
  nlt := fun i g b h => ⟨(h2.nlt i g b h).1, fun hn => (h2.nlt i g b h).2 (hN b hn)⟩
  far := ⟨fun b hb hn => h2.far.1 b hb (hN b hn), hm.far.2⟩

theorem Mem.drift (hm : Mem C φ M H U w) (hk : KeepW (fun b => b < w.heap.size ∧ ¬ X b) w w') (h1 : ∀ b, M b → ¬ X b) (h2 : ∀ i g b, φ i g = some b → ¬ X b) (h3 : ∀ b, X b → C.w.heap.size ≤ b) : Mem C φ M H U w' where
  heap :=
    { own := fun id o ho => by
        rcases hm.heap.own id o ho with h0 | ⟨b, arr, fz, g1, g2, g3, g4, g5, g6, g7⟩
        · exact .inl h0
        · refine .inr ⟨b, arr, fz, g1, ?_, g3, g4, g5, g6, fun i j hi hj => (g7 i j hi hj).mono (fun _ _ _ h => h) (fun _ h => h) (fun b hb => hk.same b ⟨hm.heap.mlt b hb, h1 b hb⟩) hk.sizes⟩
          rw [hk.same b ⟨(hm.nlt _ _ _ g1).1, h2 _ _ _ g1⟩]
          exact g2
      inj := hm.heap.inj
      last := hm.heap.last
      mlt := fun b hb => Nat.lt_of_lt_of_le (hm.heap.mlt b hb) hk.size }
  used := hm.used
  dom := hm.dom
  os := hk.os.trans hm.os
  tape := hk.tape.trans hm.tape
  output := hk.output.trans hm.output
  size := Nat.le_trans hm.size hk.size
  frame := fun b hb ho => (hk.same b ⟨Nat.lt_of_lt_of_le hb hm.size, fun hx => absurd (h3 b hx) (Nat.not_le.mpr hb)⟩).trans (hm.frame b hb ho)
  fresh := hm.fresh
  reads := hm.reads
  keeps := hm.keeps
  sizes := fun b => Nat.le_trans (hm.sizes b) (hk.sizes b)
  nlt := fun i g b h => ⟨Nat.lt_of_lt_of_le (hm.nlt i g b h).1 hk.size, (hm.nlt i g b h).2⟩
  far := hm.far

theorem LoopS.drift (h : LoopS C φ M Mc X l st tm df w) (hk : KeepW (fun b => b < w.heap.size ∧ ¬ X b) w w') : LoopS C φ M Mc (fun b => X b ∨ (w.heap.size ≤ b ∧ b < w'.heap.size)) l st tm df w' where
  slots := fun t v ht => by
    obtain ⟨x, hx, hr⟩ := h.slots t v ht
    exact ⟨x, hx, hr.mono (fun _ _ _ h => h) (fun _ h => h) (fun b hb => hk.same b ⟨h.mem.heap.mlt b hb, (h.noM b hb).1⟩) hk.sizes⟩
  mem := h.mem.drift hk (fun b hb => (h.noM b hb).1) (fun i g b hb => (h.noN i g b hb).1) (fun b hb => Nat.le_of_lt (Nat.lt_of_le_of_lt h.llt (h.xlt b hb).1))
  marks := fun d hd => by
    obtain ⟨D, d1, d2, d3, d4⟩ := h.marks d hd
    exact ⟨D, d1, d2, by rw [hk.same D ⟨h.mem.heap.mlt D d2, (h.noM D d2).1⟩]; exact d3, d4⟩
  noM := fun b hb => ⟨fun hx => hx.elim (h.noM b hb).1 (fun hn => by have := h.mem.heap.mlt b hb; omega), (h.noM b hb).2⟩
  noN := fun i g b hb => ⟨fun hx => hx.elim (h.noN i g b hb).1 (fun hn => by have := (h.mem.nlt i g b hb).1; omega), (h.noN i g b hb).2⟩
  caps := h.caps
  xlt := fun b hb => hb.elim (fun hx => ⟨(h.xlt b hx).1, Nat.lt_of_lt_of_le (h.xlt b hx).2 hk.size⟩) (fun hn => ⟨Nat.lt_of_lt_of_le h.lin hn.1, hn.2⟩)
  llt := h.llt
  lin := Nat.lt_of_lt_of_le h.lin hk.size

theorem putObj_size {w : World} {l : Nat} {o : Obj} : (w.putObj l o).heap.size = w.heap.size := by simp [World.putObj]

/-- The loop's record is turned. -/
theorem LoopS.turn (h : LoopS C φ M Mc X l st tm df w) {o o' : Obj} (ho : w.heap[l]? = some o) (h1 : o.isCells = false) (h2 : o'.isCells = false) : LoopS C φ M Mc X l st tm df (w.putObj l o') where
  slots := fun t v ht => by
    obtain ⟨x, hx, hr⟩ := h.slots t v ht
    exact ⟨x, hx, hr.cells (turn_cells ho h1) (bsize_turn ho h1 h2)⟩
  mem := h.mem.cells (turn_cells ho h1) (bsize_turn ho h1 h2) rfl rfl rfl (Nat.le_of_eq putObj_size.symm) (fun b hb _ => World.putObj_heap_other (fun e => by have := h.llt; omega))
  marks := fun d hd => by
    obtain ⟨D, d1, d2, d3, d4⟩ := h.marks d hd
    exact ⟨D, d1, d2, by rw [World.putObj_heap_other (h.noM D d2).2]; exact d3, d4⟩
  noM := h.noM
  noN := h.noN
  caps := h.caps
  xlt := fun b hb => by rw [putObj_size]; exact h.xlt b hb
  llt := h.llt
  lin := by rw [putObj_size]; exact h.lin

theorem LoopS.self (h : LoopS C φ M Mc X l st tm df w) : Mem ⟨w, ownOf φ st.heap, M, others C X l⟩ φ M st.heap st.used w :=
  h.mem.self (fun b hb hn => by
      rcases hn with hn | hn | hn
      · exact h.mem.far.1 b hb hn
      · exact (h.noM b hb).1 hn
      · exact (h.noM b hb).2 hn)
    (fun i g b hb hn => by
      rcases hn with hn | hn | hn
      · exact (h.mem.nlt i g b hb).2 hn
      · exact (h.noN i g b hb).1 hn
      · exact (h.noN i g b hb).2 hn)
    (fun b hn => by
      rcases hn with hn | hn | rfl
      · exact Nat.lt_of_lt_of_le (h.mem.far.2 b hn) h.mem.size
      · exact (h.xlt b hn).2
      · exact h.lin)

/-- Code has run that left the others alone. -/
theorem LoopS.after (h : LoopS C φ M Mc X l st tm df w) (hm : Mem ⟨w, ownOf φ st.heap, M, others C X l⟩ φ' M' st'.heap st'.used w') (hs : ∀ t v, st'.slots t = some v → ∃ x, tm[t]? = some x ∧ Ra φ' w' M' v x) :
    LoopS C φ' M' Mc X l st' tm df w' ∧ KeepW (fun b => X b ∨ M b ∨ b = l) w w' := by
  have hno : ∀ b, (X b ∨ M b ∨ b = l) → b < w.heap.size ∧ ¬ ownOf φ st.heap b := by
    rintro b (hb | hb | rfl)
    · exact ⟨(h.xlt b hb).2, fun ⟨id, o, _, k2⟩ => (h.noN _ _ _ k2).1 hb⟩
    · exact ⟨h.mem.heap.mlt b hb, h.mem.notown hb⟩
    · exact ⟨h.lin, fun ⟨id, o, _, k2⟩ => (h.noN _ _ _ k2).2 rfl⟩
  have hk : KeepW (fun b => X b ∨ M b ∨ b = l) w w' := ⟨hm.os, hm.tape, hm.output, hm.size, fun b hb => hm.frame b (hno b hb).1 (hno b hb).2, hm.sizes⟩
  refine ⟨{ slots := hs, mem := h.mem.comp hm (fun b hb => .inl hb), marks := fun d hd => ?_, noM := fun b hb => ?_, noN := fun i g b hb => ?_, caps := fun b hb => hm.keeps b (h.caps b hb), xlt := fun b hb => ⟨(h.xlt b hb).1, Nat.lt_of_lt_of_le (h.xlt b hb).2 hm.size⟩, llt := h.llt, lin := Nat.lt_of_lt_of_le h.lin hm.size }, hk⟩
  · obtain ⟨D, d1, d2, d3, d4⟩ := h.marks d hd
    exact ⟨D, d1, hm.keeps D d2, by rw [hk.same D (.inr (.inl d2))]; exact d3, d4⟩
  · have := hm.far.1 b hb
    exact ⟨fun hx => this (.inr (.inl hx)), fun hx => this (.inr (.inr hx))⟩
  · have := (hm.nlt i g b hb).2
    exact ⟨fun hx => this (.inr (.inl hx)), fun hx => this (.inr (.inr hx))⟩

end
end Go.AM

namespace Go.AM
open Go Go.RowKit

def setPs : List Nat → List AV → (Nat → Option AV) → (Nat → Option AV)
  | p :: ps, v :: vs, s => setPs ps vs (updF s p v)
  | _, _, s => s

/-- A round begins. -/
def roundSt (st : ASt) (ps : List Nat) (x : List AV) : ASt := ⟨st.nt, setPs ps x st.slots, st.heap, st.used, ⟨none, fun _ => True, [], false, st.slots, true⟩⟩
/-- The loop's own variables behind a round. -/
def behind (nt : Nat) (s : ASt) : ASt := ⟨nt, s.x.gs, s.heap, s.used, X0⟩
def roundQ (nt : Nat) (In : Prop) (Sn : ASt) (Q : APost) : APost := fun e s =>
  match e with
  | .normal => In ∧ SubS (behind nt s) Sn
  | .ret => Q .ret (behind nt s)
  | .exit i => Q (.exit i) (behind nt s)
  | .panic _ => False

section
variable {P : Program} {K : Ctx} {C : Came} {φ φ' : Names} {M M' Mc X N : Blocks} {H H' : Heap} {U U' : List Nat} {w w' : World} {T : Tab} {st st' : ASt} {l : Nat} {tm : Array Value} {df : List Deferred}

def foldPs (ps : List Nat) (vals : List Value) (tm : Array Value) : Array Value := (ps.zip vals).foldl (fun tm q => tm.setIfInBounds q.1 q.2) tm

theorem foldPs_size : ∀ (ps : List Nat) (vals : List Value) (tm : Array Value), (foldPs ps vals tm).size = tm.size := by
  intro ps
  induction ps with
  | nil => intro vals tm; rfl
  | cons p ps ih =>
    intro vals tm
    cases vals with
    | nil => rfl
    | cons v vals =>
      have := ih vals (tm.setIfInBounds p v)
      simpa [foldPs] using this

theorem setPs_good : ∀ (ps : List Nat) (x : List AV) (vals : List Value) (s : Nat → Option AV) (tm : Array Value), x.length = vals.length → (∀ i, i < x.length → Ra φ w M (getL x i) (vals.getD i undef)) → (∀ p ∈ ps, p < tm.size) →
    (∀ t v, s t = some v → ∃ y, tm[t]? = some y ∧ Ra φ w M v y) → ∀ t v, setPs ps x s t = some v → ∃ y, (foldPs ps vals tm)[t]? = some y ∧ Ra φ w M v y := by
  intro ps
  induction ps with
  | nil => intro x vals s tm _ _ _ hs t v ht; exact hs t v ht
  | cons p ps ih =>
    intro x vals s tm hl hr hp hs t v ht
    cases x with
    | nil =>
      cases vals with
      | nil => exact hs t v ht
      | cons _ _ => simp at hl
    | cons u x =>
      cases vals with
      | nil => simp at hl
      | cons q vals =>
        have := ih x vals (updF s p u) (tm.setIfInBounds p q) (by simpa using hl) (fun i hi => by simpa [getL] using hr (i + 1) (by simpa using hi)) (fun r hr' => by simpa using hp r (List.mem_cons_of_mem _ hr')) (fun t' v' ht' => by
          by_cases he : t' = p
          · subst he
            rw [updF_same] at ht'
            obtain rfl := Option.some.inj ht'
            refine ⟨q, ?_, by simpa [getL] using hr 0 (by simp)⟩
            rw [Array.getElem?_setIfInBounds]
            simp [hp t' (List.mem_cons_self ..)]
          · rw [updF_ne _ _ he] at ht'
            obtain ⟨y, hy, hry⟩ := hs t' v' ht'
            exact ⟨y, by rw [Array.getElem?_setIfInBounds, if_neg (fun e => he e.symm)]; exact hy, hry⟩) t v ht
        simpa [foldPs] using this

def KR (l : Nat) (tm : Array Value) (C : Came) : Ctx := ⟨some l, none, fun _ => True, fun t => tm[t]?, fun _ _ C' => C' = C⟩

theorem awp_range {Q : APost} {g : Operand} {ps : Array Tmp} {assign body : Code} {S : List (List AV) → ASt} {gf nc : Nat} {f0 caps : Nat → AV} {caps' : List AV} {valid full : List (List AV) → Prop} (I : List (List AV) → Prop) (hI : I [])
    (hx : ∀ pre, (S pre).x = X0) (hnt : ∀ pre, (S pre).nt = (S []).nt) (hgv : evalO (S []).slots g = some (.func (.func gf) 0 f0 nc caps)) (hcl : caps'.length = nc) (hcaps : ∀ i, i < nc → VLe (S []).heap [] [] (caps i) (getL caps' i))
    (hps : ∀ p ∈ ps.toList, p < (S []).nt) (hlen : ∀ pre x, valid (pre ++ [x]) → x.length = ps.size) (hit : IterCall P gf caps' valid full)
    (hround : ∀ pre x, I pre → valid (pre ++ [x]) → AWP P assign (seqQ (AWP P body (roundQ (S []).nt (I (pre ++ [x])) (S (pre ++ [x])) Q)) (fun _ _ => False)) (roundSt (S pre) ps.toList x))
    (hdone : ∀ xs, I xs → full xs → Q .normal (S xs)) : AWP P (.rangeFunc g ps assign body) Q (S []) := by
  intro K φ M a w hK hg
  have hrd : K.rd = none := by
    have := hg.inr
    rw [hx []] at this
    cases hr : K.rd with
    | none => rfl
    | some r => rw [hr] at this; cases this
  obtain ⟨C, hΓ, hm, hdf⟩ := hg.mem
  rw [hx []] at hΓ
  obtain ⟨hen, hcall⟩ := hit
  have hfv := evalO_sound hg.slots hgv
  generalize hF : a.eval g = G at hfv
  cases hfv with
  | func _ _ _ _ _ xs ys hxs hys _ hcap =>
  have hx0 : xs = #[] := by simpa using hxs
  subst hx0
  refine wpIn_rangeFunc fun fn hfn => ?_
  rw [show (fen K.rd).round = none from hrd]
  obtain ⟨rec, hrec⟩ : ∃ rec : LoopState → Option Code → Loop, rec = fun st pe => { state := st, pending := pe, fn, tmps := a.tmps, params := ps, assign, body, defers := w.heap.size } := ⟨_, rfl⟩
  obtain ⟨W1, hW1⟩ : ∃ W1, (w.alloc (.deferred (some []))).alloc (.loop (rec .ready none)) = W1 := ⟨_, rfl⟩
  have hsz1 : W1.heap.size = w.heap.size + 2 := by rw [← hW1]; simp
  have hL1 : W1.heap[w.heap.size + 1]? = some (.loop (rec .ready none)) := by
    rw [← hW1]; have := World.alloc_heap_new (w.alloc (.deferred (some []))) (.loop (rec .ready none)); rwa [World.size_alloc] at this
  have hD1 : W1.heap[w.heap.size]? = some (.deferred (some [])) := by
    rw [← hW1]; exact (Below.heap_alloc _ _ _ (by simp)).trans (World.alloc_heap_new w _)
  have hold : ∀ b, b < w.heap.size → W1.heap[b]? = w.heap[b]? := fun b hb => by
    rw [← hW1]; exact (Below.heap_alloc _ _ _ (by simp; omega)).trans (Below.heap_alloc _ _ _ hb)
  have hk1 : KeepW (fun b => b < w.heap.size ∧ ¬ (fun _ => False) b) w W1 := ⟨by rw [← hW1]; rfl, by rw [← hW1]; rfl, by rw [← hW1]; rfl, by omega, fun b hb => hold b hb.1, bsize_old hold⟩
  have hm1 : Mem C φ M (S []).heap (S []).used W1 := hm.drift hk1 (fun _ _ h => h) (fun _ _ _ _ h => h) (fun _ h => h.elim)
  let M1 : Blocks := fun b => M b ∨ b = w.heap.size
  have hup : ∀ {v : AV} {x : Value}, Ra φ w M v x → Ra φ W1 M1 v x := fun h => h.mono (fun _ _ _ h => h) (fun _ h => .inl h) (fun b hb => hold b (hm.heap.mlt b hb)) hk1.sizes
  have hup1 : ∀ {v : AV} {x : Value}, Ra φ W1 M v x → Ra φ W1 M1 v x := fun h => h.mono (fun _ _ _ h => h) (fun _ h => .inl h) (fun b hb => rfl) (fun _ => Nat.le_refl _)
  let mark : Deferred := { target := .collected w.heap.size, args := #[] }
  let a2 : Act := { a with defers := mark :: a.defers }
  have hmD : Mem C φ M1 (S []).heap (S []).used W1 :=
    { heap := { own := fun id o ho => by
                  rcases hm1.heap.own id o ho with h0 | ⟨b, arr, fz, g1, g2, g3, g4, g5, g6, g7⟩
                  · exact .inl h0
                  · exact .inr ⟨b, arr, fz, g1, g2, g3, g4, fun h => h.elim g5 (fun e => by have := (hm.nlt _ _ _ g1).1; omega), g6, fun i j hi hj => hup1 (g7 i j hi hj)⟩
                inj := hm1.heap.inj, last := hm1.heap.last, mlt := fun b hb => hb.elim (hm1.heap.mlt b) (fun e => by omega) }
      used := hm1.used, dom := hm1.dom, os := hm1.os, tape := hm1.tape, output := hm1.output, size := hm1.size, frame := hm1.frame, fresh := hm1.fresh
      reads := fun b hb => hb.elim (hm1.reads b) (fun e => .inr (.inr (by have := hm.size; omega))), keeps := fun b hb => .inl (hm1.keeps b hb), sizes := hm1.sizes, nlt := hm1.nlt
      far := ⟨fun b hb => hb.elim (hm1.far.1 b) (fun e hn => by have := hm.far.2 b hn; have := hm.size; omega), hm1.far.2⟩ }
  have hL0 : LoopS C φ M1 M (fun _ => False) (w.heap.size + 1) (S []) a.tmps (mark :: a.defers) W1 :=
    { slots := fun t v ht => by obtain ⟨x, hx, hr⟩ := hg.slots t v ht; exact ⟨x, hx, hup hr⟩
      mem := hmD
      marks := fun d hd => by
        rcases List.mem_cons.mp hd with rfl | hd
        · exact ⟨w.heap.size, rfl, .inr rfl, hD1, .inr hm.size⟩
        · obtain ⟨D, d1, d2, d3, d4⟩ := hdf d hd
          exact ⟨D, d1, .inl d2, by rw [hold D (hm.heap.mlt D d2)]; exact d3, d4⟩
      noM := fun b hb => ⟨fun h => h, fun e => by rcases hb with hb | hb; (have := hm.heap.mlt b hb; omega); omega⟩
      noN := fun i g b hb => ⟨fun h => h, fun e => by have := (hm.nlt _ _ _ hb).1; omega⟩
      caps := fun b hb => .inl hb
      xlt := fun b h => h.elim
      llt := by have := hm.size; omega
      lin := by omega }
  have hnd2 : (mark :: a.defers).Nodup := by
    rw [List.nodup_cons]
    refine ⟨fun hmem => ?_, hg.dnd⟩
    obtain ⟨D, d1, d2, _⟩ := hdf _ hmem
    have : mark.target = Target.collected D := by rw [d1]
    have hD : w.heap.size = D := by injection this
    have := hm.heap.mlt D d2
    omega
  let J : JT := fun pre stop X W => ∃ φ M1 st' pe, LoopS C φ M1 M X (w.heap.size + 1) st' a.tmps (mark :: a.defers) W ∧ st'.x = X0 ∧ st'.nt = (S []).nt ∧ W.heap[w.heap.size + 1]? = some (.loop (rec (if stop then .done else .ready) pe)) ∧
    (stop = false → pe = none ∧ st' = S pre ∧ I pre) ∧ (stop = true → (pe = some .ret ∧ Q .ret st') ∨ ∃ i, pe = some (.exit i) ∧ Q (.exit i) st')
  refine ⟨w.heap.size + 1, [mark], W1, { target := .fn (.func gf) ys, args := #[.func (.yield (w.heap.size + 1)) #[] #[]] }, W1, gf, #[.func (.yield (w.heap.size + 1)) #[] #[]] ++ ys, W1, ?_, ?_, fun _ _ => trivial, ?_, fun h => absurd h (by simp [fen, Fence.wide]), ?_⟩
  · rw [← hW1, hrec]; exact run_enterLoop_outer _ _ _ _ _
  · simp only [resolve, hF]
    simp [go_sem]
  · have := run_callFunc (P := P) W1 (args := #[.func (.yield (w.heap.size + 1)) #[] #[]] ++ ys) hen
    simp only [invoke]
    simpa using this
  have hst : Stab J := by
    rintro pre stop X W W' ⟨φ', M', st', pe, hl, h1, h2, h3, h4, h5⟩ hk
    exact ⟨φ', M', st', pe, hl.drift hk, h1, h2, by rw [hk.same _ ⟨hl.lin, fun hx => absurd (hl.xlt _ hx).1 (Nat.lt_irrefl _)⟩]; exact h3, h4, h5⟩
  have hargs : ArgsAre noNames W1 M caps' ys := by
    refine ⟨by rw [hcl]; exact hys, fun i hi => ?_⟩
    rw [hcl] at hi
    refine (hcaps i hi).sound (φ' := noNames) hm1 (fun i' j g b hu => by simp [lookL] at hu) (fun b h => h) (fun id o b hb => by simp [memN] at hb) ?_
    exact (hcap i hi).mono (fun _ _ _ h => h) (fun _ h => h) (fun b hb => hold b (hm.heap.mlt b hb)) hk1.sizes
  have henvC := hK.1 _ _ _ hΓ
  have hcall' := hcall (w.heap.size + 1) W1 M ys J hm1.heap.mlt (henvC.at hm1) hargs hst ?_ ⟨φ, M1, S [], none, hL0, hx [], rfl, hL1, fun _ => ⟨rfl, rfl, hI⟩, fun h => by cases h⟩
  · have hc : CallsIn (fen K.rd) (0 - 1) P gf (#[.func (.yield (w.heap.size + 1)) #[] #[]] ++ ys) W1 _ := callsIn_wide.mpr hcall'
    refine hc.mono ?_
    rintro e W2 ⟨⟨v, rfl⟩, pre, stop, X, hfull, ⟨φ', M', st', pe, hl, h1, h2, h3, h4, h5⟩, _⟩
    have hgood : ∀ (o : Obj), o.isCells = false → Good K φ' M' st' a2 (W2.putObj (w.heap.size + 1) o) := fun o ho => by
      have ht := hl.turn h3 rfl ho
      exact { slots := ht.slots, gslots := fun t v hv => (by rw [h1] at hv; cases hv), mem := ⟨C, by rw [h1]; exact hΓ, ht.mem, ht.marks⟩, wide := by rw [h2]; exact hg.wide, yl := by rw [h1, ← hx []]; exact hg.yl, valid := by rw [h1, ← hx []]; exact hg.valid,
              dnd := hnd2, inr := by rw [h1, ← hx []]; exact hg.inr, rdd := fun hr => (by rw [h1] at hr; cases hr) }
    have hend := run_endLoop (P := P) h3 (by rw [hrec]; cases stop <;> simp)
    rw [show (rec (if stop = true then .done else .ready) pe).pending = pe by rw [hrec]] at hend
    refine ⟨pe, _, hend, ?_⟩
    cases stop with
    | false =>
      obtain ⟨rfl, rfl, hIp⟩ := h4 rfl
      exact ⟨_, _, _, hgood _ rfl, hdone pre hIp (hfull rfl)⟩
    | true =>
      rcases h5 rfl with ⟨rfl, hq⟩ | ⟨i, rfl, hq⟩
      · exact wpIn_ret ⟨_, _, _, hgood _ rfl, hq⟩
      · exact wpIn_exit ⟨_, _, _, hgood _ rfl, hq⟩
  -- one round
  rintro pre x vals X W ⟨φ1, M2, st', pe, hl, h1, h2, h3, h4, _⟩ hval hfl _
  obtain ⟨rfl, rfl, hIp⟩ := h4 rfl
  have h3 : W.heap[w.heap.size + 1]? = some (.loop (rec .ready none)) := h3
  have hxl := hlen pre x hval
  have hy := run_yield (P := P) (args := vals) h3 (by rw [hrec]; simp only; rw [hfl.1, hxl])
  rw [hrec] at hy
  have hnts := hg.wide
  refine ⟨fn, _, assign, body, hy, roundIn_of_wpIn (F := Fence.wide) trivial ?_⟩
  have hfold : ((ps.zip vals).foldl (fun tmps (x : Tmp × Value) => tmps.setIfInBounds x.1 x.2) a.tmps) = foldPs ps.toList vals.toList a.tmps := by
    rw [foldPs, ← Array.toList_zip, Array.foldl_toList]
  have hg1 : Good (KR (w.heap.size + 1) a.tmps ⟨W, ownOf φ1 (S pre).heap, M2, others C X (w.heap.size + 1)⟩) φ1 M2 (roundSt (S pre) ps.toList x) { tmps := foldPs ps.toList vals.toList a.tmps, defers := [] } W :=
    { slots := setPs_good ps.toList x vals.toList (S pre).slots a.tmps (by simp [hfl.1]) (fun i hi => by have := hfl.2 i hi φ1 W M2; simpa [Array.getD_eq_getD_getElem?] using this) (fun p hp => Nat.lt_of_lt_of_le (hps p hp) hnts) hl.slots
      gslots := hl.slots
      mem := ⟨_, rfl, hl.self, fun d hd => (by cases hd)⟩
      wide := by rw [foldPs_size]; show (S pre).nt ≤ _; rw [hnt]; exact hnts
      yl := rfl, valid := rfl, dnd := List.nodup_nil, inr := rfl, rdd := fun _ => rfl }
  have hKR : ∀ (C' : Came), EnvOK P C' → (KR (w.heap.size + 1) a.tmps C').ok P := fun C' he => ⟨fun _ _ C h => by obtain rfl : C = _ := h; exact he, fun l h => by cases h⟩
  have hEnv : ∀ {φ' : Names} {M' : Blocks} {st' : ASt} {W : World} {N : Blocks}, Mem C φ' M' st'.heap st'.used W → EnvOK P ⟨W, ownOf φ' st'.heap, M', N⟩ := fun {φ' M' st' W N} hm' => (henvC.at hm').ok (fun b hb => hm'.notown hb)
  have hrun := hround pre x hIp hval _ _ _ _ _ (hKR _ (hEnv hl.mem)) hg1
  rw [← hfold] at hrun
  refine wpIn_mono (F := fen (some (w.heap.size + 1))) hrun ?_
  rintro e a1 W1' ⟨s1, φ2, M3, hgs, hqs⟩
  cases e with
  | exit i => exact hqs.elim
  | ret => exact hqs.elim
  | panic ch => obtain ⟨_, _, _, _, hf⟩ := hqs; exact hf.elim
  | goto t => exact hqs.elim
  | outgrown => exact hqs.elim
  | normal =>
    obtain ⟨C2, hC2, hms, _⟩ := hgs.mem
    have hC2 : C2 = ⟨W, ownOf φ1 (S pre).heap, M2, others C X (w.heap.size + 1)⟩ := hC2
    subst hC2
    obtain ⟨hl1, hk1'⟩ := hl.after (st' := ⟨s1.nt, fun _ => none, s1.heap, s1.used, X0⟩) hms (fun t v ht => by cases ht)
    have hr1 : W1'.heap[w.heap.size + 1]? = some (.loop (rec .ready none)) := (hk1'.same _ (.inr (.inr rfl))).trans h3
    have hbr := run_beginRound (P := P) hr1 (by rw [hrec])
    refine ⟨_, hbr, ?_⟩
    obtain ⟨busy, hbusy⟩ : ∃ busy : Loop, busy = { rec .ready none with state := .busy } := ⟨_, rfl⟩
    rw [← hbusy]
    have hl2 := hl1.turn hr1 rfl (o' := .loop busy) rfl
    have hin1 : s1.x.inR = true := by rw [hgs.inr]; rfl
    have hg3 : Good (KR (w.heap.size + 1) a.tmps ⟨W1'.putObj (w.heap.size + 1) (.loop busy), ownOf φ2 s1.heap, M3, others C X (w.heap.size + 1)⟩) φ2 M3 s1 a1 (W1'.putObj (w.heap.size + 1) (.loop busy)) :=
      { slots := fun t v ht => by obtain ⟨y, hy, hr⟩ := hgs.slots t v ht; exact ⟨y, hy, hr.cells (turn_cells hr1 rfl) (bsize_turn hr1 rfl rfl)⟩
        gslots := fun t v ht => by obtain ⟨y, hy, hr⟩ := hgs.gslots t v ht; exact ⟨y, hy, hr.cells (turn_cells hr1 rfl) (bsize_turn hr1 rfl rfl)⟩
        mem := ⟨_, rfl, hl2.self, fun d hd => by rw [hgs.rdd hin1] at hd; cases hd⟩
        wide := hgs.wide, yl := hgs.yl, valid := hgs.valid, dnd := hgs.dnd, inr := hgs.inr, rdd := hgs.rdd }
    have hrun2 := hqs _ _ _ _ _ (hKR _ (hEnv (st' := ⟨s1.nt, fun _ => none, s1.heap, s1.used, X0⟩) hl2.mem)) hg3
    refine wpIn_mono (F := fen (some (w.heap.size + 1))) hrun2 ?_
    rintro e a3 W3 ⟨s3, φ3, M4, hgs3, hq3⟩
    obtain ⟨C3, hC3, hms3, _⟩ := hgs3.mem
    have hC3 : C3 = ⟨W1'.putObj (w.heap.size + 1) (.loop busy), ownOf φ2 s1.heap, M3, others C X (w.heap.size + 1)⟩ := hC3
    subst hC3
    obtain ⟨hl3, hk3⟩ := hl2.after (st' := behind (S []).nt s3) hms3 hgs3.gslots
    have hr3 : W3.heap[w.heap.size + 1]? = some (.loop busy) := (hk3.same _ (.inr (.inr rfl))).trans (World.putObj_heap_same hl1.lin)
    have hkeep : ∀ (o : Obj), o.isCells = false → KeepW (fun b => X b ∨ M b) W (W3.putObj (w.heap.size + 1) o) := fun o ho => by
      have hne : ∀ b, (X b ∨ M b) → b ≠ w.heap.size + 1 := by
        rintro b (hb | hb)
        · have := (hl.xlt b hb).1; omega
        · have := hm.heap.mlt b hb; omega
      refine ⟨hk3.os.trans hk1'.os, hk3.tape.trans hk1'.tape, hk3.output.trans hk1'.output, ?_, fun b hb => ?_, fun b => ?_⟩
      · have h1 := hk1'.size
        have h2 := hk3.size
        rw [putObj_size] at h2 ⊢
        omega
      · rw [World.putObj_heap_other (hne b hb), hk3.same b (hb.elim .inl (fun h => .inr (.inl (hl1.caps b h)))), World.putObj_heap_other (hne b hb), hk1'.same b (hb.elim .inl (fun h => .inr (.inl (hl.caps b h))))]
      · exact Nat.le_trans (hk1'.sizes b) (Nat.le_trans (bsize_turn hr1 rfl rfl b) (Nat.le_trans (hk3.sizes b) (bsize_turn hr3 rfl ho b)))
    have hend : ∀ (jump : Option Code), (Instr.endRound (w.heap.size + 1) jump).run P W3 = .ok (.bool jump.isNone) (W3.putObj (w.heap.size + 1) (.loop (rec (if jump.isNone then .ready else .done) jump))) := fun jump => by
      have := run_endRound (P := P) jump hr3
      rw [this, hbusy, hrec]
    have hrl : ∀ (o : Obj), (W3.putObj (w.heap.size + 1) o).heap[w.heap.size + 1]? = some o := fun o => World.putObj_heap_same hl3.lin
    cases e with
    | normal =>
      obtain ⟨hIn, hq3⟩ : I (pre ++ [x]) ∧ SubS (behind (S []).nt s3) (S (pre ++ [x])) := hq3
      have hgN : Good ⟨none, none, fun _ => True, fun _ => none, fun _ _ C' => C' = ⟨W3, ownOf φ3 s3.heap, M4, others C X (w.heap.size + 1)⟩⟩ φ3 M4 (behind (S []).nt s3) { tmps := a.tmps, defers := [] } W3 :=
        { slots := hl3.slots, gslots := fun t v hv => (by cases hv), mem := ⟨_, rfl, hl3.self, fun d hd => (by cases hd)⟩, wide := hnts, yl := rfl, valid := rfl, dnd := List.nodup_nil, inr := rfl, rdd := fun _ => rfl }
      obtain ⟨φ4, M5, hg4⟩ := hq3 _ _ _ _ _ hgN
      obtain ⟨C4, hC4, hm4, _⟩ := hg4.mem
      have hC4 : C4 = ⟨W3, ownOf φ3 s3.heap, M4, others C X (w.heap.size + 1)⟩ := hC4
      subst hC4
      obtain ⟨hl4, _⟩ := hl3.after (st' := S (pre ++ [x])) hm4 hg4.slots
      exact ⟨_, _, hend none, false, rfl, ⟨φ4, M5, S (pre ++ [x]), none, hl4.turn hr3 rfl rfl, hx _, hnt _, hrl _, fun _ => ⟨rfl, rfl, hIn⟩, fun h => by cases h⟩, hkeep _ rfl⟩
    | ret =>
      exact ⟨_, _, hend (some .ret), true, rfl, ⟨φ3, M4, behind (S []).nt s3, some .ret, hl3.turn hr3 rfl rfl, rfl, rfl, hrl _, fun h => (by cases h), fun _ => .inl ⟨rfl, hq3⟩⟩, hkeep _ rfl⟩
    | exit i =>
      exact ⟨_, _, hend (some (.exit i)), true, rfl, ⟨φ3, M4, behind (S []).nt s3, some (.exit i), hl3.turn hr3 rfl rfl, rfl, rfl, hrl _, fun h => (by cases h), fun _ => .inr ⟨i, rfl, hq3⟩⟩, hkeep _ rfl⟩
    | panic ch => obtain ⟨_, _, _, _, hf⟩ := hq3; exact hf.elim
    | goto t => exact hq3.elim
    | outgrown => exact hq3.elim

end
end Go.AM

namespace Go.AM
open Go Go.RowKit

/-- No loops, no drawn orders. -/
def plain : Code → Bool
  | .skip => true
  | .region _ _ draw => !draw
  | .seq a b => plain a && plain b
  | .cond _ a b => plain a && plain b
  | .block _ c => plain c
  | .exit _ => true
  | .ret => true
  | _ => false

def inlQ (T : Tab) (rs : List ResultVar) (k : AV → Heap → List Nat → Prop) : APost := fun e st =>
  match e with
  | .normal => finK T rs st fun l => k (pack l) st.heap st.used
  | .ret => finK T rs st fun l => k (pack l) st.heap st.used
  | _ => False

section
variable {P : Program} {K : Ctx} {C : Came} {φ φ' : Names} {M M' : Blocks} {H : Heap} {U : List Nat} {w w' : World} {T : Tab} {st st' : ASt} {a : Act}

theorem ex_soundM (hT : T.ok P = true) : ∀ (c : Code) (Q : APost) (st : ASt), plain c = true → ex P T c Q st → ∀ K φ M a w, K.ok P → Good K φ M st a w → c.wpIn (fen K.rd) 0 P (QCM K φ M w a.defers Q) a w := by
  intro c
  induction c with
  | skip => intro Q st _ h K φ M a w hK hg; exact wpIn_skip ⟨st, φ, M, hg, ⟨Mono.refl _ _ _, rfl⟩, h⟩
  | region id ops draw =>
    intro Q st hp h K φ M a w hK hg
    simp only [plain, Bool.not_eq_true'] at hp
    subst hp
    exact wpIn_region (aops_sound hT hK _ st φ M a w rfl (Mono.refl _ _ _) hg h)
  | seq x y ihx ihy =>
    intro Q st hp h K φ M a w hK hg
    simp only [plain, Bool.and_eq_true] at hp
    refine wpIn_seq (wpIn_mono (ihx _ st hp.1 h K φ M a w hK hg) ?_)
    rintro e a1 w1 ⟨s1, φ1, M1, hg1, ⟨hm1, hd1⟩, hq1⟩
    cases e with
    | normal =>
      refine wpIn_mono (ihy Q s1 hp.2 hq1 K φ1 M1 a1 w1 hK hg1) fun e a2 w2 hq => ?_
      rw [hd1] at hq
      exact hq.trans hm1
    | exit i => exact ⟨s1, φ1, M1, hg1, ⟨hm1, hd1⟩, hq1⟩
    | ret => exact ⟨s1, φ1, M1, hg1, ⟨hm1, hd1⟩, hq1⟩
    | panic ch => exact ⟨s1, φ1, M1, hg1, ⟨hm1, hd1⟩, hq1⟩
    | goto t => exact hq1.elim
    | outgrown => exact hq1.elim
  | cond c x y ihx ihy =>
    intro Q st hp h K φ M a w hK hg
    simp only [plain, Bool.and_eq_true] at hp
    simp only [ex] at h
    split at h
    · rename_i b hb
      have hv := (evalO_sound hg.slots hb).bool
      exact wpIn_cond_split hv (fun e => ihx Q st hp.1 (h.1 e) K φ M a w hK hg) (fun e => ihy Q st hp.2 (h.2 e) K φ M a w hK hg)
    · exact h.elim
  | block i c ih =>
    intro Q st hp h K φ M a w hK hg
    refine wpIn_block (wpIn_mono (ih _ st hp h K φ M a w hK hg) ?_)
    rintro e a1 w1 ⟨s1, φ1, M1, hg1, hm1, hq1⟩
    cases e with
    | normal => exact ⟨s1, φ1, M1, hg1, hm1, hq1⟩
    | exit j =>
      simp only [Exit.inBlock]
      simp only [blockQ] at hq1
      by_cases hj : j = i
      · subst hj
        rw [show Nat.beq j j = true from Nat.beq_refl j] at hq1
        rw [if_pos rfl]
        exact ⟨s1, φ1, M1, hg1, hm1, hq1⟩
      · rw [if_neg hj]
        have hb : Nat.beq j i = false := by
          cases hc : Nat.beq j i with
          | true => exact absurd (Nat.eq_of_beq_eq_true hc) hj
          | false => rfl
        rw [hb] at hq1
        exact ⟨s1, φ1, M1, hg1, hm1, hq1⟩
    | ret => exact ⟨s1, φ1, M1, hg1, hm1, hq1⟩
    | panic ch => exact ⟨s1, φ1, M1, hg1, hm1, hq1⟩
    | goto t => exact hq1.elim
    | outgrown => exact hq1.elim
  | exit i => intro Q st _ h K φ M a w hK hg; exact wpIn_exit ⟨st, φ, M, hg, ⟨Mono.refl _ _ _, rfl⟩, h⟩
  | ret => intro Q st _ h K φ M a w hK hg; exact wpIn_ret ⟨st, φ, M, hg, ⟨Mono.refl _ _ _, rfl⟩, h⟩
  | loop c _ => intro Q st hp; simp [plain] at hp
  | rangeFunc f ps a b _ _ => intro Q st hp; simp [plain] at hp
  | scope c _ => intro Q st hp; simp [plain] at hp
  | label l => intro Q st hp; simp [plain] at hp
  | goto l => intro Q st hp; simp [plain] at hp
  | refuse s => intro Q st hp; simp [plain] at hp

theorem CallK.inline {f : FuncId} {fn : Func} {c : Code} {args : List AV} {k kp : AV → Heap → List Nat → Prop} (hT : T.ok P = true) (hen : enters P f = true) (hf : P.funcs[f]? = some fn) (hb : fn.body = some c) {n : Nat} (hn : fn.ntmps = n)
    {rs : List ResultVar} (hrs : fn.results.toList = rs) (hp : plain c = true) (h : ex P T c (inlQ T rs k) ⟨n, argS args 0, H, U, X0⟩) : CallK P f args H U k kp := by
  intro C φ M w xs henv hm ha
  refine ⟨hen, calls_body hf hb ?_⟩
  have hK : (KH C).ok P := ⟨fun _ _ C' h => by obtain rfl : C' = _ := h; exact henv, fun l h => by cases h⟩
  have hgood : Good (KH C) φ M ⟨n, argS args 0, H, U, X0⟩ { tmps := xs ++ Array.replicate (n - xs.size) undef, defers := [] } w :=
    { slots := fun t v ht => by
        obtain ⟨h1, h2, h3⟩ := argS_get _ _ _ _ ht
        have hlt : t < args.length := by omega
        refine ⟨xs.getD t undef, ?_, by rw [← h3]; exact ha.2 t hlt⟩
        have : t < xs.size := by rw [ha.1]; exact hlt
        simp [Array.getElem?_append, this, Array.getD_eq_getD_getElem?]
      gslots := fun t v ht => (by cases ht), mem := ⟨_, rfl, hm, fun d hd => (by cases hd)⟩, wide := (by simp; omega), yl := rfl, valid := rfl, dnd := List.nodup_nil, inr := rfl, rdd := fun _ => rfl }
  rw [hn]
  refine wpIn_mono (ex_soundM hT c _ _ hp h _ _ _ _ _ hK hgood) ?_
  rintro e a1 w1 ⟨s1, φ1, M1, hg1, ⟨hm1, hd1⟩, hq1⟩
  have hd0 : a1.defers = [] := hd1
  have fin : (finK T rs s1 fun l => k (pack l) s1.heap s1.used) → LeavesInM (fen none) 0 P fn a1.tmps (fun e w' => ∃ φ' M' H' U', (∀ i g b, φ i g = some b → φ' i g = some b) ∧ (∀ b, M b → M' b) ∧ (∀ b, M b → w'.heap[b]? = w.heap[b]?) ∧ (∀ b, bsize w b ≤ bsize w' b) ∧ Mem C φ' M' H' U' w' ∧
      match e with
      | .returned x => ∃ r, Ra φ' w' M' r x ∧ k r H' U'
      | .panicked ch => ∃ r x, ch = [{ v := x, recovered := false }] ∧ Ra φ' w' M' r x ∧ kp r H' U'
      | .outgrown => False) a1.defers .returning w1 := by
    intro hk
    rw [hd0]
    obtain ⟨l, ys, hkl, h1, h2, h3, h4⟩ := finK_sound hT hg1 _ _ hk
    obtain ⟨x, hx, hr⟩ := results_of hrs h1 h2 h3 h4
    obtain ⟨C1, hC1, hmm, _⟩ := hg1.mem
    have hC1 : C1 = C := hC1
    subst hC1
    exact ⟨x, hx, φ1, M1, s1.heap, s1.used, hm1.names, hm1.reads, hm1.same, hm1.sizes, hmm, pack l, hr, hkl⟩
  cases e with
  | normal => exact fin hq1
  | ret => exact fin hq1
  | panic ch => obtain ⟨_, _, _, _, hf⟩ := hq1; exact hf.elim
  | exit i => exact hq1.elim
  | goto l => exact hq1.elim
  | outgrown => exact hq1.elim

end
end Go.AM

namespace Go.AM
open Go Go.RowKit

def oldB (w : World) : Blocks := fun b => b < w.heap.size

/-- What is read at type t is an a with ok a, standing in n cells. -/
def RdT (P : Program) (t : TypeId) (n : Nat) {α : Type} (pv : α → Nat → PV) (ok : α → Prop) : Prop :=
  ∀ (H : Type) (enc : TypeId × Value → H) (w : World) (sp : Nat → Bool) (fuel : Nat) (cs : List Value) (x : DataW H × List MemPlace), DataW.trod enc P w 0 sp true fuel t cs = some x → (∀ k ∈ DataW.weights P t x.1, k ≤ reachBytes) →
    cs.length = n ∧ ∃ a, ok a ∧ ∀ j, j < n → (cs.getD j undef).oneCell' = true ∧ Rp w (oldB w) (pv a j) (cs.getD j undef)

section
variable {P : Program} {t e : TypeId} {n m : Nat} {α β γ : Type} {pv pv' : α → Nat → PV} {ok ok' : α → Prop}

theorem RdT.int {k : IntKind} (ht : P.underlying t = some (.int k)) : RdT P t 1 (fun (a : Int) _ => .int k a) (fun a => (Lit.int k a).wf = true) := by
  intro H enc w sp fuel cs x h hwt
  obtain ⟨a, rfl, _, hw⟩ := DataW.trod_int ht h
  exact ⟨rfl, a, hw, fun j hj => by
    obtain rfl : j = 0 := by omega
    exact ⟨rfl, .int _ _⟩⟩
theorem RdT.bool (ht : P.underlying t = some .bool) : RdT P t 1 (fun (a : Bool) _ => .bool a) (fun _ => True) := by
  intro H enc w sp fuel cs x h hwt
  obtain ⟨a, rfl, _⟩ := DataW.trod_bool ht h
  exact ⟨rfl, a, trivial, fun j hj => by
    obtain rfl : j = 0 := by omega
    exact ⟨rfl, .bool _⟩⟩
theorem RdT.str (ht : P.underlying t = some .string) : RdT P t 1 (fun (a : List UInt8) _ => .str a) (fun a => a.length ≤ reachBytes) := by
  intro H enc w sp fuel cs x h hwt
  obtain ⟨a, rfl, rfl, _⟩ := DataW.trod_string ht h
  exact ⟨rfl, a.data.toList, hwt _ (by simp [DataW.weights]), fun j hj => by
    obtain rfl : j = 0 := by omega
    exact ⟨rfl, .str _⟩⟩
theorem RdT.congr (h : RdT P t n pv ok) (hp : ∀ a j, j < n → pv a j = pv' a j) (hk : ∀ a, ok a → ok' a) : RdT P t n pv' ok' := by
  intro H enc w sp fuel cs x hx hwt
  obtain ⟨h1, a, h2, h3⟩ := h H enc w sp fuel cs x hx hwt
  exact ⟨h1, a, hk a h2, fun j hj => ⟨(h3 j hj).1, by rw [← hp a j hj]; exact (h3 j hj).2⟩⟩

theorem choose_list {p : Nat → α → Prop} : ∀ n, (∀ i, i < n → ∃ a, p i a) → ∃ l : List α, l.length = n ∧ ∀ d i, i < n → p i (l.getD i d)
  | 0, _ => ⟨[], rfl, fun _ i hi => absurd hi (Nat.not_lt_zero i)⟩
  | n + 1, h => by
    obtain ⟨l, h1, h2⟩ := choose_list n fun i hi => h i (by omega)
    obtain ⟨a, ha⟩ := h n (by omega)
    refine ⟨l ++ [a], by simp [h1], fun d i hi => ?_⟩
    by_cases hl : i < n
    · have := h2 d i hl
      rw [List.getD_eq_getElem?_getD] at this ⊢
      rwa [List.getElem?_append_left (by omega)]
    · obtain rfl : i = n := by omega
      rw [List.getD_eq_getElem?_getD, List.getElem?_append_right (by omega)]
      simpa [h1] using ha

theorem forall_of_getD {l : List α} {q : α → Prop} (d : α) (h : ∀ i, i < l.length → q (l.getD i d)) : ∀ a ∈ l, q a := fun a ha => by
  obtain ⟨i, hi, rfl⟩ := List.getElem_of_mem ha
  have := h i hi
  rwa [List.getD_eq_getElem?_getD, List.getElem?_eq_getElem hi] at this

theorem cells_get {w : World} {base : Nat} {a : Addr} {n : Nat} {cs : List Value} (h : w.cells? base a n = some cs) : cs.length = n ∧ ∀ j, j < n → w.cell? (a.add j) = some (cs.getD j undef) := by
  unfold World.cells? at h
  split at h
  · have hl := mapM_some_length h
    rw [List.length_range] at hl
    refine ⟨hl, fun j hj => ?_⟩
    have := mapM_some_get h j j (by simp [hj])
    rw [this, List.getD_eq_getElem?_getD, List.getElem?_eq_getElem (by omega)]
    rfl
  · cases h

theorem cell_lt {w : World} {b o : Nat} {v : Value} (h : w.cell? ⟨b, o, none⟩ = some v) : b < w.heap.size := by
  have hb : w.heap[b]? ≠ none := fun hn => by
    simp [World.cell?, hn] at h
  exact Nat.lt_of_not_le fun hle => hb (Array.getElem?_eq_none hle)

theorem weights_mem {H : Type} {d : DataW H} {q : Nat} : ∀ {l : List (DataW H)}, d ∈ l → q ∈ DataW.weights P e d → q ∈ DataW.weightsAll P e l
  | [], h, _ => by cases h
  | y :: l, h, hq => by
    simp only [DataW.weightsAll, List.mem_append]
    rcases List.mem_cons.mp h with rfl | h
    · exact .inl hq
    · exact .inr (weights_mem h hq)
theorem RdT.slice (ht : P.underlying t = some (.slice e)) (hc : P.cellsOf e = n) (hn : 0 < n) (d : α) (he : RdT P e n pv ok) :
    RdT P t 1 (fun (l : List α) _ => .seq e n l.length (fun i j => pv (l.getD i d) j)) (fun l => (∀ a ∈ l, ok a) ∧ l.length * P.bytesOf e ≤ reachBytes) := by
  intro H enc w sp fuel cs x h hwt
  rcases Deep.open_slice ht h with ⟨rfl, _⟩ | ⟨a, len, cap, m, k, D, Pl, rfl, _, hl, hm, hmm, rfl, hx⟩
  · exact ⟨rfl, [], ⟨fun a ha => (by cases ha), by rw [List.length_nil, Nat.zero_mul]; exact Nat.zero_le _⟩, fun j hj => by
      obtain rfl : j = 0 := by omega
      exact ⟨rfl, .seq0 _ _ _ _ _⟩⟩
  have hle : len ≤ m := by rw [hmm]; split <;> omega
  have hws : DataW.weights P t (.slice ((List.range len).map D) ((List.range (m - len)).map fun j => D (len + j))) = (len + (m - len)) * P.bytesOf e :: (DataW.weightsAll P e ((List.range len).map D) ++ DataW.weightsAll P e ((List.range (m - len)).map fun j => D (len + j))) := by
    simp only [DataW.weights, ht, List.length_map, List.length_range]
  dsimp only at hwt
  rw [hws] at hwt
  obtain ⟨l, h1, h2⟩ := choose_list (p := fun i z => ok z ∧ ∃ cs', w.cells? 0 (a.add (i * n)) n = some cs' ∧ ∀ j, j < n → (cs'.getD j undef).oneCell' = true ∧ Rp w (oldB w) (pv z j) (cs'.getD j undef)) len fun i hi => by
    obtain ⟨cs', g1, g2⟩ := hx i (by omega)
    rw [hc] at g1
    obtain ⟨_, z, g3, g4⟩ := he H enc w sp k cs' _ g2 fun q hq => hwt q (List.mem_cons_of_mem _ (List.mem_append_left _ (weights_mem (List.mem_map.mpr ⟨i, by simpa using hi, rfl⟩) hq)))
    exact ⟨z, g3, cs', g1, g4⟩
  refine ⟨rfl, l, ⟨forall_of_getD d fun i hi => (h2 d i (by omega)).1, Nat.le_trans (Nat.mul_le_mul_right _ (by omega)) (hwt _ (List.mem_cons_self ..))⟩, fun j hj => ?_⟩
  obtain rfl : j = 0 := by omega
  refine ⟨rfl, ?_⟩
  have hrow : ∀ i j, i < len → j < n → ∃ v, w.cell? ((a.add (i * n)).add j) = some v ∧ v.oneCell' = true ∧ Rp w (oldB w) (pv (l.getD i d) j) v := fun i j hi hj => by
    obtain ⟨_, cs', g1, g2⟩ := h2 d i hi
    exact ⟨_, (cells_get g1).2 j hj, g2 j hj⟩
  show Rp w (oldB w) (.seq e n l.length fun i j => pv (l.getD i d) j) (.slice (some a) len cap)
  rw [h1]
  by_cases h0 : len = 0
  · subst h0; exact .seq0 _ _ _ _ _
  have hai : a = ⟨a.block, a.off, none⟩ := by
    obtain ⟨v, hv, _⟩ := hrow 0 0 (by omega) hn
    obtain ⟨b, o, far⟩ := a
    cases far with
    | none => rfl
    | some f =>
      simp [World.cell?, Addr.add] at hv
      split at hv <;> cases hv
  have hadd : ∀ i j, (a.add (i * n)).add j = ⟨a.block, a.off + i * n + j, none⟩ := fun i j => by
    obtain ⟨b, o, far⟩ := a
    cases hai
    rw [Deep.add_add]
    simp only [Addr.add]
    split
    · rename_i h; simp only [Nat.add_assoc, h, Nat.add_zero]
    · simp only [Nat.add_assoc]
  rw [hai]
  refine .seq _ _ _ _ _ _ _ (fun i j => (w.cell? ⟨a.block, a.off + i * n + j, none⟩).getD undef) ?_ hl (fun i j hi hj => ?_) (fun i j hi hj => ?_) (fun i j hi hj => ?_)
  · obtain ⟨v, hv, _⟩ := hrow 0 0 (by omega) hn
    rw [hadd] at hv
    exact cell_lt hv
  all_goals
    obtain ⟨v, hv, h3, h4⟩ := hrow i j hi hj
    rw [hadd] at hv
    rw [hv]
  · rfl
  · exact h3
  · exact h4

theorem drop_take_getD {cs : List Value} {o n j : Nat} (hj : j < n) : ((cs.drop o).take n).getD j undef = cs.getD (o + j) undef := by
  rw [List.getD_eq_getElem?_getD, List.getD_eq_getElem?_getD, List.getElem?_take_of_lt hj, List.getElem?_drop]

theorem RdT.struct2 {f0 f1 : Field} {n0 n1 : Nat} {pv0 : α → Nat → PV} {pv1 : β → Nat → PV} {ok0 : α → Prop} {ok1 : β → Prop} (ht : P.underlying t = some (.struct #[f0, f1]))
    (ho0 : f0.offset = 0) (ho1 : f1.offset = n0) (hc0 : P.cellsOf f0.type = n0) (hc1 : P.cellsOf f1.type = n1) (hct : P.cellsOf t = n0 + n1) (h0 : RdT P f0.type n0 pv0 ok0) (h1 : RdT P f1.type n1 pv1 ok1) :
    RdT P t (n0 + n1) (fun (a : α × β) j => bif Nat.ble (j + 1) n0 then pv0 a.1 j else pv1 a.2 (j - n0)) (fun a => ok0 a.1 ∧ ok1 a.2) := by
  intro H enc w sp fuel cs x h hwt
  obtain ⟨xs, k, _, rfl, hlen, hxl, hf⟩ := DataW.trod_struct ht h
  have hl2 : xs.length = 2 := hxl
  match xs, hl2 with
  | [x0, x1], _ =>
  have hws : DataW.weights P t (.agg ([x0, x1].map (·.1))) = DataW.weights P f0.type x0.1 ++ (DataW.weights P f1.type x1.1 ++ []) := by
    simp only [DataW.weights, ht, List.map, DataW.weightsEach]
  dsimp only at hwt
  rw [hws] at hwt
  have g0 := hf 0 f0 rfl
  have g1 := hf 1 f1 rfl
  rw [ho0, hc0] at g0
  rw [ho1, hc1] at g1
  obtain ⟨_, a, k1, k2⟩ := h0 H enc w sp k _ x0 g0 fun q hq => hwt q (by simp only [List.mem_append]; exact .inl hq)
  obtain ⟨_, b, k3, k4⟩ := h1 H enc w sp k _ x1 g1 fun q hq => hwt q (by simp only [List.mem_append]; exact .inr (.inl hq))
  refine ⟨by rw [hlen, hct], (a, b), ⟨k1, k3⟩, fun j hj => ?_⟩
  by_cases hj0 : j < n0
  · have := k2 j hj0
    rw [drop_take_getD hj0, Nat.zero_add] at this
    dsimp only
    rw [Nat.ble_eq_true_of_le hj0]
    exact this
  · have := k4 (j - n0) (by omega)
    rw [drop_take_getD (by omega), show n0 + (j - n0) = j by omega] at this
    dsimp only
    rw [show Nat.ble (j + 1) n0 = false by rw [← Bool.not_eq_true, Nat.ble_eq]; omega]
    exact this

theorem RdT.struct3 {f0 f1 f2 : Field} {n0 n1 n2 : Nat} {pv0 : α → Nat → PV} {pv1 : β → Nat → PV} {pv2 : γ → Nat → PV} {ok0 : α → Prop} {ok1 : β → Prop} {ok2 : γ → Prop} (ht : P.underlying t = some (.struct #[f0, f1, f2]))
    (ho0 : f0.offset = 0) (ho1 : f1.offset = n0) (ho2 : f2.offset = n0 + n1) (hc0 : P.cellsOf f0.type = n0) (hc1 : P.cellsOf f1.type = n1) (hc2 : P.cellsOf f2.type = n2) (hct : P.cellsOf t = n0 + n1 + n2)
    (h0 : RdT P f0.type n0 pv0 ok0) (h1 : RdT P f1.type n1 pv1 ok1) (h2 : RdT P f2.type n2 pv2 ok2) :
    RdT P t (n0 + n1 + n2) (fun (a : α × β × γ) j => bif Nat.ble (j + 1) n0 then pv0 a.1 j else bif Nat.ble (j + 1) (n0 + n1) then pv1 a.2.1 (j - n0) else pv2 a.2.2 (j - (n0 + n1))) (fun a => ok0 a.1 ∧ ok1 a.2.1 ∧ ok2 a.2.2) := by
  intro H enc w sp fuel cs x h hwt
  obtain ⟨xs, k, _, rfl, hlen, hxl, hf⟩ := DataW.trod_struct ht h
  have hl2 : xs.length = 3 := hxl
  match xs, hl2 with
  | [x0, x1, x2], _ =>
  have hws : DataW.weights P t (.agg ([x0, x1, x2].map (·.1))) = DataW.weights P f0.type x0.1 ++ (DataW.weights P f1.type x1.1 ++ (DataW.weights P f2.type x2.1 ++ [])) := by
    simp only [DataW.weights, ht, List.map, DataW.weightsEach]
  dsimp only at hwt
  rw [hws] at hwt
  have g0 := hf 0 f0 rfl
  have g1 := hf 1 f1 rfl
  have g2 := hf 2 f2 rfl
  rw [ho0, hc0] at g0
  rw [ho1, hc1] at g1
  rw [ho2, hc2] at g2
  obtain ⟨_, a, k1, k2⟩ := h0 H enc w sp k _ x0 g0 fun q hq => hwt q (by simp only [List.mem_append]; exact .inl hq)
  obtain ⟨_, b, k3, k4⟩ := h1 H enc w sp k _ x1 g1 fun q hq => hwt q (by simp only [List.mem_append]; exact .inr (.inl hq))
  obtain ⟨_, c, k5, k6⟩ := h2 H enc w sp k _ x2 g2 fun q hq => hwt q (by simp only [List.mem_append]; exact .inr (.inr (.inl hq)))
  refine ⟨by rw [hlen, hct], (a, b, c), ⟨k1, k3, k5⟩, fun j hj => ?_⟩
  have no : ∀ {a b : Nat}, ¬ a < b → Nat.ble (a + 1) b = false := fun h => by rw [← Bool.not_eq_true, Nat.ble_eq]; exact h
  by_cases hj0 : j < n0
  · have := k2 j hj0
    rw [drop_take_getD hj0, Nat.zero_add] at this
    dsimp only
    rw [Nat.ble_eq_true_of_le hj0]
    exact this
  · by_cases hj1 : j < n0 + n1
    · have := k4 (j - n0) (by omega)
      rw [drop_take_getD (by omega), show n0 + (j - n0) = j by omega] at this
      dsimp only
      rw [no hj0, Nat.ble_eq_true_of_le hj1]
      exact this
    · have := k6 (j - (n0 + n1)) (by omega)
      rw [drop_take_getD (by omega), show n0 + n1 + (j - (n0 + n1)) = j by omega] at this
      dsimp only
      rw [no hj0, no hj1]
      exact this

theorem RdT.array {k : Nat} (ht : P.underlying t = some (.array k e)) (hc : P.cellsOf e = n) (hct : P.cellsOf t = k * n) (d : α) (he : RdT P e n pv ok) :
    RdT P t (k * n) (fun (l : List α) j => pv (l.getD (j / n) d) (j % n)) (fun l => l.length = k ∧ ∀ a ∈ l, ok a) := by
  intro H enc w sp fuel cs x h hwt
  obtain ⟨xs, m, _, rfl, hlen, hxl, hf⟩ := DataW.trod_array ht h
  have hws : DataW.weights P t (.agg (xs.map (·.1))) = DataW.weightsAll P e (xs.map (·.1)) := by
    simp only [DataW.weights, ht]
  dsimp only at hwt
  rw [hws] at hwt
  obtain ⟨l, h1, h2⟩ := choose_list (p := fun i z => ok z ∧ ∀ j, j < n → (cs.getD (i * n + j) undef).oneCell' = true ∧ Rp w (oldB w) (pv z j) (cs.getD (i * n + j) undef)) k fun i hi => by
    have g := hf i hi
    rw [List.getElem?_eq_getElem (by omega), hc] at g
    obtain ⟨_, z, g3, g4⟩ := he H enc w sp m _ _ g fun q hq => hwt q (weights_mem (List.mem_map.mpr ⟨_, List.getElem_mem _, rfl⟩) hq)
    exact ⟨z, g3, fun j hj => by have := g4 j hj; rwa [drop_take_getD hj] at this⟩
  refine ⟨by rw [hlen, hct], l, ⟨h1, forall_of_getD d fun i hi => (h2 d i (by omega)).1⟩, fun j hj => ?_⟩
  have hn : 0 < n := Nat.pos_of_ne_zero fun h => by subst h; omega
  have := (h2 d (j / n) (Nat.div_lt_of_lt_mul (by rw [Nat.mul_comm]; exact hj))).2 (j % n) (Nat.mod_lt _ hn)
  rwa [show j / n * n + j % n = j by rw [Nat.mul_comm]; exact Nat.div_add_mod j n] at this

/-- An argument of one cell. -/
theorem RdT.arg1 (h : RdT P t 1 pv ok) {H : Type} {enc : TypeId × Value → H} {w : World} {sp : Nat → Bool} {v : Value} {dd : DataW H} {ps : List MemPlace} (hv : ∀ cs, v ≠ .agg cs) (hd : DataW.Trod enc P w 0 sp true t v dd ps) (hwt : ∀ k ∈ DataW.weights P t dd, k ≤ reachBytes) :
    ∃ a, ok a ∧ ∀ φ, Ra φ w (oldB w) (.pv (pv a 0)) v := by
  obtain ⟨fuel, hf⟩ := hd
  obtain ⟨_, a, h1, h2⟩ := h H enc w sp fuel _ _ hf hwt
  have := (h2 0 (by omega)).2
  refine ⟨a, h1, fun φ => .pv _ _ ?_⟩
  cases v with
  | agg cs => exact absurd rfl (hv cs)
  | _ => exact this
/-- An argument of several. -/
theorem RdT.argN (h : RdT P t n pv ok) {H : Type} {enc : TypeId × Value → H} {w : World} {sp : Nat → Bool} {v : Value} {dd : DataW H} {ps : List MemPlace} (hv : ∃ cs, v = .agg cs) (hd : DataW.Trod enc P w 0 sp true t v dd ps) (hwt : ∀ k ∈ DataW.weights P t dd, k ≤ reachBytes) :
    ∃ a, ok a ∧ ∀ φ, Ra φ w (oldB w) (.agg n fun j => .pv (pv a j)) v := by
  obtain ⟨cs, rfl⟩ := hv
  obtain ⟨fuel, hf⟩ := hd
  obtain ⟨h0, a, h1, h2⟩ := h H enc w sp fuel _ _ hf hwt
  have e : ∀ j, cs.toList.getD j undef = cs.getD j undef := fun j => by simp [List.getD_eq_getElem?_getD, Array.getD_eq_getD_getElem?]
  refine ⟨a, h1, fun φ => .agg _ _ _ (by simpa [Value.cells] using h0) (fun i hi => ?_) (fun i hi => .pv _ _ ?_)⟩
  · have := (h2 i hi).1
    rwa [show (Value.agg cs).cells.toList = cs.toList from rfl, e] at this
  · have := (h2 i hi).2
    rwa [show (Value.agg cs).cells.toList = cs.toList from rfl, e] at this

theorem args_nil {φ : Names} {w : World} {M : Blocks} : ArgsAre φ w M [] #[] := ⟨rfl, fun i hi => absurd hi (Nat.not_lt_zero i)⟩
theorem args_one {φ : Names} {w : World} {M : Blocks} {a : AV} {v : Value} (h : Ra φ w M a v) : ArgsAre φ w M [a] #[v] := ⟨rfl, fun i hi => by
  obtain rfl : i = 0 := by simp at hi; omega
  exact h⟩
theorem args_two {φ : Names} {w : World} {M : Blocks} {a b : AV} {u v : Value} (h1 : Ra φ w M a u) (h2 : Ra φ w M b v) : ArgsAre φ w M [a, b] #[u, v] := ⟨rfl, fun i hi => by
  match i, hi with
  | 0, _ => exact h1
  | 1, _ => exact h2⟩
theorem args_three {φ : Names} {w : World} {M : Blocks} {a b c : AV} {u v x : Value} (h1 : Ra φ w M a u) (h2 : Ra φ w M b v) (h3 : Ra φ w M c x) : ArgsAre φ w M [a, b, c] #[u, v, x] := ⟨rfl, fun i hi => by
  match i, hi with
  | 0, _ => exact h1
  | 1, _ => exact h2
  | 2, _ => exact h3⟩

theorem trodAll_stays (hl : laidOutB P = true) {W W' : World} (hold : ∀ b, b < W.heap.size → W'.heap[b]? = W.heap[b]?) {H : Type} {enc : TypeId × Value → H} {sp' : Nat → Bool} :
    ∀ {ts : List TypeId} {vs : List Value} {ds : List (DataW H)} {ps : List MemPlace}, (∀ u ∈ ts, P.readableRec u = true ∧ u < P.types.size) → DataW.TrodAll enc P W 0 (fun _ => true) true ts vs ds ps → (∀ p ∈ ps, sp' p.block = true ∧ p.block < W.heap.size) →
      DataW.TrodAll enc P W' 0 sp' true ts vs ds ps
  | [], [], [], _, _, h, _ => h
  | [], [], _ :: _, _, _, h, _ => h.elim
  | [], _ :: _, _, _, _, h, _ => h.elim
  | _ :: _, [], _, _, _, h, _ => h.elim
  | _ :: _, _ :: _, [], _, _, h, _ => h.elim
  | u :: ts, v :: vs, d :: ds, ps, hr, ⟨p, q, h1, h2, he⟩, hs => by
    subst he
    refine ⟨p, q, WideElems.Trod_stays hl (hr u (List.mem_cons_self ..)).1 (hr u (List.mem_cons_self ..)).2 h1 (fun x hx => ?_) (fun x hx => (hs x (List.mem_append_left _ hx)).1),
      trodAll_stays hl hold (fun u hu => hr u (List.mem_cons_of_mem _ hu)) h2 (fun x hx => hs x (List.mem_append_right _ hx)), rfl⟩
    have hlt := (hs x (List.mem_append_left _ hx)).2
    cases x with
    | cell b o =>
      show W'.cell? ⟨b, o, none⟩ = W.cell? ⟨b, o, none⟩
      exact World.cell?_of_block (hold b hlt)
    | map b => exact hold b hlt

theorem kept_of_old {w w' : World} (h1 : w'.os = w.os) (h2 : w'.output = w.output) (h : ∀ b, b < w.heap.size → w'.heap[b]? = w.heap[b]?) (may : MemPlace → Prop) : w.keptBut w' may := by
  refine ⟨h1, h2, fun i hi => ?_⟩
  rw [h i hi]
  cases w.heap[i]? with
  | none => rfl
  | some o => cases o <;> first | exact ⟨rfl, rfl, rfl, fun _ _ => rfl⟩ | exact .inr ⟨rfl, rfl⟩ | rfl

end
end Go.AM

namespace Go.AM
open Go Go.RowKit Go.ChangeShapes Go.WideShapes Go.ChangeAt

theorem post_same {H : Type} {enc : TypeId × Value → H} {P : Program} {f : Func} {s : ChangeSpec} {apart fresh handsOn again : Bool} {W W' : World} {args : Array Value} {v : Value} {ds gs : List (DataW H)} {before pa pv : List MemPlace}
    (hW : DataW.Whole enc P f.params.toList s.vars apart W args.toList ds gs before)
    (hres : ∀ (b : Nat) (sp : Nat → Bool) (hd : Bool), DataW.TrodAll enc P W' b sp hd f.resultTypes.toList (v.resultList f.resultTypes.size) (s.fn H (ds ++ gs)).results [])
    (hargs : ∀ sp : Nat → Bool, (∀ p ∈ before, sp p.block = true) → DataW.TrodAll enc P W' 0 sp true f.params.toList args.toList (s.fn H (ds ++ gs)).args pa)
    (hvars : ∀ sp : Nat → Bool, (∀ p ∈ before, sp p.block = true) → DataW.TrodVars enc P W' sp s.vars (s.fn H (ds ++ gs)).vars pv)
    (hps : before = pa ++ pv) (hk : W.keptBut W' (· ∈ before)) (hfz : ∀ a : Addr, a.block < W.heap.size → W'.frozen? a = W.frozen? a)
    (hok : ∀ (j : Nat) (t : TypeId) (r : Value), f.resultTypes[j]? = some t → (v.resultList f.resultTypes.size)[j]? = some r → Value.okWide P W' .any 0 t r) :
    s.post enc P f apart fresh handsOn again W args v W' := by
  have hlt : ∀ p ∈ before, p.block < W.heap.size := fun p hp => hW.lt p hp
  have hold : ∀ p ∈ before, (fun b => decide (b < W.heap.size)) p.block = true := fun p hp => by simpa using hlt p hp
  refine ⟨ds, gs, before, [], pa, pv, hW, hres _ _ _, hargs _ hold, hvars _ hold, World.keptBut_mono (fun p hp => ⟨hp, ?_⟩) hk, fun _ => ?_⟩
  · rw [hps, List.mem_append] at hp
    exact Or.inr hp
  · obtain ⟨_, _, _, _, _, hz, hn⟩ := hW
    refine ⟨hok, _, _, ([] ++ pa) ++ pv, ⟨[] ++ pa, pv, trodAll_append (hargs _ (fun _ _ => rfl)) (hres _ _ _), hvars _ (fun _ _ => rfl), rfl, ?_, ?_⟩, ?_⟩
    · intro b off hp
      have hp : MemPlace.cell b off ∈ before := by rw [hps]; simpa using hp
      rw [hfz _ (hlt _ hp)]
      exact hz b off hp
    · intro ha
      have := hn ha
      rw [hps] at this
      simpa using this
    · intro p hp _
      rw [hps]
      simpa using hp

theorem weights_cons {H : Type} {P : Program} {t : TypeId} {ts : List TypeId} {d : DataW H} {ds : List (DataW H)} (h : (DataW.weightsEach P (t :: ts) (d :: ds)).all (· ≤ reachBytes) = true) :
    (∀ k ∈ DataW.weights P t d, k ≤ reachBytes) ∧ (DataW.weightsEach P ts ds).all (· ≤ reachBytes) = true := by
  simp only [DataW.weightsEach, List.all_append, Bool.and_eq_true] at h
  exact ⟨fun k hk => by simpa using List.all_eq_true.mp h.1 k hk, h.2⟩

/-- The law answers true and leaves its arguments as they were. -/
theorem law_calls {H : Type} {enc : TypeId × Value → H} {P : Program} {f : FuncId} {fn : Func} {s : ChangeSpec} {tb : TypeId} {apart fresh handsOn again : Bool} {W : World} {args : Array Value} {ds gs : List (DataW H)} {before : List MemPlace}
    (hl : laidOutB P = true) (hp : fn.params.toList.all (fun t => P.readableRec t && decide (t < P.types.size)) = true) (hb : P.underlying tb = some .bool) (hr : fn.resultTypes = #[tb]) (hsv : s.vars = [])
    (hW : DataW.Whole enc P fn.params.toList s.vars apart W args.toList ds gs before) (hs : s.fn H ds = { results := [.lit (.bool true)], args := ds })
    (henv : EnvM P W (oldB W)) (avs : List AV) (ha : ArgsAre noNames W (oldB W) avs args) (hc : PureCall P f avs (.pv (.bool true))) :
    Calls P f args W fun e W' => ∃ v, e = .returned v ∧ s.post enc P fn apart fresh handsOn again W args v W' := by
  refine (hc.2 W (oldB W) args (fun b h => h) henv ha).mono fun e W' hq => ?_
  obtain ⟨x, rfl, h1, h2, h3, h4, h5, h6⟩ := hq
  obtain ⟨p, q, k1, k2, k3, k4, k5⟩ := hW
  have hlt : ∀ y ∈ before, y.block < W.heap.size := fun y hy => DataW.Whole.lt (enc := enc) ⟨p, q, k1, k2, k3, k4, k5⟩ y hy
  have hv := k2
  rw [hsv] at hv
  obtain ⟨hgs, hq0⟩ := trodVars_none hv
  subst hgs
  have hx : x = .bool true := by
    cases h6 with
    | pv _ _ h => cases h; rfl
  subst hx
  refine ⟨_, rfl, post_same (pa := p) (pv := q) ⟨p, q, k1, k2, k3, k4, k5⟩ (fun b sp hd => ?_) (fun sp hsp => ?_) (fun sp hsp => ?_) k3 (kept_of_old h1 h3 h5 _) (fun a ha => ?_) ?_⟩
  · rw [List.append_nil, hs, hr]
    exact trodAll_mk1 (shut_bool hb _)
  · rw [List.append_nil, hs]
    refine trodAll_stays hl h5 (fun u hu => ?_) k1 fun y hy => ⟨hsp y (by rw [k3]; exact List.mem_append_left _ hy), hlt y (by rw [k3]; exact List.mem_append_left _ hy)⟩
    have := List.all_eq_true.mp hp u hu
    simpa using this
  · rw [List.append_nil, hs, hsv]
    exact hq0
  · simp only [World.frozen?, h5 a.block ha]
  · exact ok_one hr rfl (okWide_bool_mk hb _)
end Go.AM

namespace Go.AM
open Go Go.RowKit

/-- The first n parts of a sequence, and what is behind them. -/
def headN : Nat → Code → Code
  | 0, _ => .skip
  | n + 1, .seq a b => .seq a (headN n b)
  | _ + 1, _ => .skip
def tailN : Nat → Code → Code
  | 0, c => c
  | n + 1, .seq _ b => tailN n b
  | _ + 1, c => c

section
variable {P : Program} {T : Tab}

theorem ex_cut (hT : T.ok P = true) (hmix : P.follows .mixedOrders = true) {Q : APost} : ∀ (n : Nat) (c : Code) (st : ASt), ex P T (headN n c) (seqQ (AWP P (tailN n c) Q) Q) st → AWP P c Q st := by
  intro n
  induction n with
  | zero => intro c st h; exact h
  | succ n ih =>
    intro c st h
    cases c with
    | seq a b =>
      have h1 : ex P T a (seqQ (ex P T (headN n b) (seqQ (AWP P (tailN n b) Q) Q)) (seqQ (AWP P (tailN n b) Q) Q)) st := h
      refine awp_seq ((ex_sound hT hmix _ _ _ h1).mono fun e s hq => ?_)
      cases e with
      | normal => exact ih b s hq
      | exit i => exact hq
      | ret => exact hq
      | panic v => exact hq
    | _ => exact h

theorem PureCall.runC {f : FuncId} {fn : Func} {c : Code} {args : List AV} {r : AV} (hT : T.ok P = true) (hmix : P.follows .mixedOrders = true) (hen : enters P f = true) (hf : P.funcs[f]? = some fn) (hb : fn.body = some c) {n : Nat} (hn : fn.ntmps = n)
    {rs : List ResultVar} (hrs : fn.results.toList = rs) (k : Nat) (h : ex P T (headN k c) (seqQ (AWP P (tailN k c) (finQ T rs fun v H => ∃ B, VLe H B [] v r)) (finQ T rs fun v H => ∃ B, VLe H B [] v r)) (st0 n args)) : PureCall P f args r :=
  PureCall.body hT hen hf hb hn hrs (ex_cut hT hmix k c _ h)

theorem awp_ex (hT : T.ok P = true) (hmix : P.follows .mixedOrders = true) {Q : APost} {c : Code} {st st' : ASt} (hs : SubS st st') (h : ex P T c Q st') : AWP P c Q st := AWP.sub hs (ex_sound hT hmix _ _ _ h)

end
end Go.AM

namespace Go.AM
open Go Go.RowKit
section
variable {α : Type} {H : Heap} {B : List Nat} {U : List (Nat × Nat)} {E E' : TypeId} {sz g : Nat} {c : α → Nat → PV} {d : α} {L M : List α}

/-- c says a thing's cells. -/
def rowA (E : TypeId) (sz : Nat) (c : α → Nat → PV) (d : α) (g : Nat) (L : List α) : AO := ⟨E, g, sz, L.length, fun i j => .pv (c (L.getD i d) j)⟩
def sqA (E : TypeId) (sz : Nat) (c : α → Nat → PV) (d : α) (L : List α) : PV := .seq E sz L.length fun i j => c (L.getD i d) j

theorem getD_left {i : Nat} (h : i < L.length) : (L ++ M).getD i d = L.getD i d := by
  rw [List.getD_eq_getElem?_getD, List.getD_eq_getElem?_getD, List.getElem?_append_left h]
theorem getD_right {i : Nat} (h : ¬ i < L.length) : (L ++ M).getD i d = M.getD (i - L.length) d := by
  rw [List.getD_eq_getElem?_getD, List.getD_eq_getElem?_getD, List.getElem?_append_right (by omega)]
theorem OLe.keepA : OLe H B U (rowA E sz c d g L) (rowA E sz c d g L) := ⟨rfl, rfl, rfl, Nat.le_refl _, fun _ _ _ _ => .same⟩
theorem OLe.catA {F f : Nat → Nat → AV} {n m s0 g' : Nat} {E0 : TypeId} (hE : E0 = E) (hs : s0 = sz) (hn : m = L.length + M.length) (hF : F = fun i j => .pv (c (L.getD i d) j)) (hl : n = L.length)
    (h : ∀ i j, i < M.length → j < sz → VLe H B U (f i j) (.pv (c (M.getD i d) j))) : OLe H B U ⟨E0, g', s0, m, catF F f n⟩ (rowA E sz c d g' (L ++ M)) := by
  subst hl hE hs hn hF
  refine ⟨rfl, rfl, rfl, by simp [rowA], fun i j hi hj => ?_⟩
  have hi' : i < L.length + M.length := by simpa [rowA] using hi
  show VLe H B U (catF (fun i j => .pv (c (L.getD i d) j)) f L.length i j) (.pv (c ((L ++ M).getD i d) j))
  unfold catF
  by_cases hk : i < L.length
  · rw [Nat.ble_eq_true_of_le hk, getD_left hk]; exact .same
  · have hb : Nat.ble (i + 1) L.length = false := by rw [← Bool.not_eq_true, Nat.ble_eq]; exact hk
    rw [hb, getD_right hk]
    exact h _ j (by omega) hj
theorem OLe.snocA {F f : Nat → Nat → AV} {n m s0 g' : Nat} {E0 : TypeId} {a : α} (hE : E0 = E) (hs : s0 = sz) (hn : m = L.length + 1) (hF : F = fun i j => .pv (c (L.getD i d) j)) (hl : n = L.length)
    (h : ∀ j, j < sz → VLe H B U (f 0 j) (.pv (c a j))) : OLe H B U ⟨E0, g', s0, m, catF F f n⟩ (rowA E sz c d g' (L ++ [a])) :=
  .catA hE hs hn hF hl fun i j hi hj => by
    have : i = 0 := by simp at hi; omega
    subst this; exact h j hj
theorem VLe.frzO {o : AO} {id n : Nat} (hb : memN id B = true) (hH : H id = some o) (h : OLe H B U o (rowA E sz c d g L)) (hn : n = L.length) : VLe H B U (.row id g sz 0 n) (.pv (sqA E' sz c d L)) := by
  subst hn
  obtain ⟨h1, h2, h3, h4, h5⟩ := h
  refine .frz id g sz 0 L.length o E' _ hb hH h2 h3 (by rw [Nat.zero_add]; exact h4) fun i j hi hj => ?_
  rw [Nat.zero_add]
  exact h5 i j hi (by rw [← h3]; exact hj)
/-- The cells are those of the list's things. -/
def CellsA (H : Heap) (B : List Nat) (U : List (Nat × Nat)) (F : Nat → Nat → AV) (c : α → Nat → PV) (d : α) (sz : Nat) (L : List α) : Prop := ∀ i j, i < L.length → j < sz → VLe H B U (F i j) (.pv (c (L.getD i d) j))
theorem CellsA.base : CellsA H B U (rowA E sz c d g L).f c d sz L := fun _ _ _ _ => .same
theorem CellsA.cat {F f : Nat → Nat → AV} {n : Nat} (hF : CellsA H B U F c d sz L) (hl : n = L.length) (hf : CellsA H B U f c d sz M) : CellsA H B U (catF F f n) c d sz (L ++ M) := by
  intro i j hi hj
  subst hl
  rw [List.length_append] at hi
  unfold catF
  by_cases hk : i < L.length
  · rw [Nat.ble_eq_true_of_le hk, getD_left hk]; exact hF i j hk hj
  · have hb : Nat.ble (i + 1) L.length = false := by rw [← Bool.not_eq_true, Nat.ble_eq]; exact hk
    rw [hb, getD_right hk]
    exact hf _ j (by omega) hj
theorem CellsA.one {f : Nat → Nat → AV} {a : α} (h : ∀ j, j < sz → VLe H B U (f 0 j) (.pv (c a j))) : CellsA H B U f c d sz [a] := fun i j hi hj => by
  have : i = 0 := by simp at hi; omega
  subst this; exact h j hj
theorem CellsA.row {F : Nat → Nat → AV} {E0 : TypeId} {m s0 g' : Nat} (h : CellsA H B U F c d sz L) (hE : E0 = E) (hs : s0 = sz) (hm : m = L.length) : OLe H B U ⟨E0, g', s0, m, F⟩ (rowA E sz c d g' L) := by
  subst hE hs hm
  exact ⟨rfl, rfl, rfl, Nat.le_refl _, fun i j hi hj => h i j hi hj⟩
/-- A row that is no more written. -/
theorem VLe.frzA {id n : Nat} (hb : memN id B = true) (hH : H id = some (rowA E sz c d g L)) (hn : n = L.length) : VLe H B U (.row id g sz 0 n) (.pv (sqA E' sz c d L)) := by
  subst hn
  refine .frz _ _ _ _ _ _ _ _ hb hH rfl rfl (by simp [rowA]) fun i j hi hj => ?_
  rw [Nat.zero_add]
  exact .same
theorem VLe.nilA : VLe H B U .nilS (.pv (sqA E sz c d [])) := .nil _ _ _
theorem VLe.seqA : VLe H B U (.pv (sqA E sz c d L)) (.pv (sqA E' sz c d L)) := .pv _ _ (.seq _ _ _ _ _ _ fun _ _ _ _ => .refl _)
theorem drop_getD {i : Nat} (h : i < L.length) : L.drop i = L.getD i d :: L.drop (i + 1) := by
  rw [List.drop_eq_getElem_cons h]; simp [h]
end
end Go.AM

namespace Go.AM
open Go Go.RowKit
section
variable {C : Came} {φ : Names} {M : Blocks} {H : Heap} {U : List Nat} {w w' : World}

/-- The heap without a row. -/
def delH (H : Heap) (k : Nat) : Heap := fun i => bif Nat.beq i k then none else H i
theorem delH_get {k id : Nat} {o : AO} (h : delH H k id = some o) : H id = some o ∧ id ≠ k := by
  unfold delH at h
  cases hb : Nat.beq id k with
  | true => rw [hb] at h; cases h
  | false =>
    rw [hb] at h
    exact ⟨h, fun e => by subst e; rw [Nat.beq_refl] at hb; cases hb⟩
theorem Mem.del (hm : Mem C φ M H U w) (k : Nat) : Mem C φ M (delH H k) U w :=
  { heap := { own := fun id o h => hm.heap.own id o (delH_get h).1, inj := fun i1 i2 o1 o2 b h1 h2 => hm.heap.inj i1 i2 o1 o2 b (delH_get h1).1 (delH_get h2).1, last := fun id o g b h => hm.heap.last id o g b (delH_get h).1, mlt := hm.heap.mlt }
    used := hm.used, dom := fun id o h => hm.dom id o (delH_get h).1, os := hm.os, tape := hm.tape, output := hm.output, size := hm.size, frame := hm.frame, fresh := fun id o b h => hm.fresh id o b (delH_get h).1
    reads := hm.reads, keeps := hm.keeps, sizes := hm.sizes, nlt := hm.nlt, far := hm.far }
theorem Mem.patch (hm : Mem C φ M H U w) {g : Nat} (hsz : w'.heap.size = w.heap.size) (hoth : ∀ b, b ≠ g → w'.heap[b]? = w.heap[b]?) (hbs : ∀ b, bsize w b ≤ bsize w' b) (hfree : C.own g ∨ C.w.heap.size ≤ g) (hM : ¬ M g)
    (hH : ∀ id o, H id = some o → φ id o.gen ≠ some g) (hos : w'.os = w.os) (ht : w'.tape = w.tape) (ho : w'.output = w.output) : Mem C φ M H U w' := by
  have hMh : ∀ b, M b → w'.heap[b]? = w.heap[b]? := fun b hb => hoth b fun e => hM (e ▸ hb)
  refine { heap := { own := ?_, inj := hm.heap.inj, last := hm.heap.last, mlt := fun b hb => by rw [hsz]; exact hm.heap.mlt b hb }, used := hm.used, dom := hm.dom, os := hos.trans hm.os, tape := ht.trans hm.tape, output := ho.trans hm.output, size := by rw [hsz]; exact hm.size, frame := ?_, fresh := hm.fresh, reads := hm.reads, keeps := hm.keeps, sizes := fun b => Nat.le_trans (hm.sizes b) (hbs b), nlt := fun i g b h => by rw [hsz]; exact hm.nlt i g b h, far := hm.far }
  · intro id o h
    rcases hm.heap.own id o h with h0 | ⟨b, arr, fz, h1, h2, h3, h4, h5, h6, h7⟩
    · exact .inl h0
    · have hb : b ≠ g := fun e => hH id o h (by rw [h1, e])
      exact .inr ⟨b, arr, fz, h1, by rw [hoth b hb]; exact h2, h3, h4, h5, h6, fun i j hi hj => (h7 i j hi hj).mono (fun _ _ _ h => h) (fun _ h => h) hMh hbs⟩
  · intro b hb hno
    rw [hoth b]
    · exact hm.frame b hb hno
    · intro e
      subst e
      rcases hfree with h | h
      · exact hno h
      · omega
theorem arr_one {xs : Array Value} {v : Value} (h1 : xs.size = 1) (h2 : xs.getD 0 undef = v) : xs = #[v] := by
  apply Array.ext
  · simpa using h1
  · intro i hi _
    have hi0 : i = 0 := by omega
    subst hi0
    simpa [Array.getD_eq_getD_getElem?, hi] using h2
theorem heap_freeze (w : World) (g n b : Nat) (h : b ≠ g) : (w.freeze ⟨g, 0, none⟩ n).heap[b]? = w.heap[b]? := by
  unfold World.freeze
  split
  · rfl
  · simp only [Array.getElem?_modify]
    rw [if_neg (fun e => h e.symm)]
theorem size_freeze (w : World) (g n : Nat) : (w.freeze ⟨g, 0, none⟩ n).heap.size = w.heap.size := by
  unfold World.freeze; split <;> simp
theorem bsize_freeze (w : World) (g n b : Nat) : bsize (w.freeze ⟨g, 0, none⟩ n) b = bsize w b := by
  by_cases h : b = g
  · subst h
    by_cases hn : n = 0
    · unfold World.freeze; rw [if_pos hn]
    · have e : (w.freeze ⟨b, 0, none⟩ n).heap[b]? = (w.heap[b]?).map fun
          | .cells c elem (lo, hi) => .cells c elem (if lo == hi then (0, 0 + n) else (min lo 0, max hi (0 + n)))
          | o => o := by
        unfold World.freeze
        rw [if_neg hn]
        simp only [Array.getElem?_modify, if_true]
        rfl
      unfold bsize
      rw [e]
      cases hc : w.heap[b]? with
      | none => rfl
      | some o => cases o <;> rfl
  · unfold bsize; rw [heap_freeze w g n b h]
end
end Go.AM

namespace Go.AM
open Go Go.RowKit
section
variable {P : Program} {T : Tab} {ops : List Oper} {i : Nat} {o : Oper} {l : List (Nat × Oper)} {st : ASt} {acc : List It} {k : List It → ASt → Prop}

/-- The rest of a drawn region; a wall that no computation goes through. -/
structure AD (P : Program) (T : Tab) (ops : List Oper) (l : List (Nat × Oper)) (st : ASt) (acc : List It) (k : List It → ASt → Prop) : Prop where
  out : adrawK P T ops l st acc k
theorem AD_eq : AD P T ops l st acc k = adrawK P T ops l st acc k := propext ⟨AD.out, AD.mk⟩
theorem AD.nil (h : k acc st) : AD P T ops [] st acc k := ⟨by rw [adrawK]; exact h⟩
theorem AD.plain (hg : o.guard = none) (h : drawStep P T i o st fun it st => AD P T ops l st (it :: acc) k) : AD P T ops ((i, o) :: l) st acc k := ⟨by
  simp only [AD_eq] at h
  simp only [adrawK, hg]
  exact h⟩
theorem AD.test {j dj nt : Nat} {w b : Bool} {s H U X} (hg : o.guard = some (j, w)) (hd : (ops[j]?).bind (·.dst) = some dj) (hs : s dj = some (.pv (.bool b)))
    (h : (b = w → drawStep P T i o ⟨nt, updF s dj (.pv (.bool w)), H, U, X⟩ fun it st => AD P T ops l st (it :: acc) k) ∧
      (b = (!w) → AD P T ops l (ASt.kill ⟨nt, updF s dj (.pv (.bool (!w))), H, U, X⟩ o.dst) (⟨i, o, .nilS, [], [], []⟩ :: acc) k)) :
    AD P T ops ((i, o) :: l) ⟨nt, s, H, U, X⟩ acc k := ⟨by
  simp only [AD_eq] at h
  simp only [adrawK, hg, hd, hs]
  exact h⟩
theorem ad_in (he : edgesB ops = true) (h : AD P T ops (ixOps ops 0) st [] k) : cond (edgesB ops) (adrawK P T ops (ixOps ops 0) st [] k) False := by
  rw [he]; exact h.out
/-- Code that is still to be run; a wall that no computation goes through. -/
structure EXW (P : Program) (T : Tab) (c : Code) (Q : APost) (st : ASt) : Prop where
  out : ex P T c Q st
variable {Q : APost} {a b : Code}
theorem EXW_eq : EXW P T b Q = ex P T b Q := funext fun _ => propext ⟨EXW.out, EXW.mk⟩
theorem ex_wall (h : ex P T a (seqQ (EXW P T b Q) Q) st) : ex P T (.seq a b) Q st := by
  rw [EXW_eq] at h; exact h
theorem ex_sq (h : ex P T a (seqQ (ex P T b Q) Q) st) : ex P T (.seq a b) Q st := h
theorem ex_skipS {c : Code} {Q' : APost} (h : ex P T c Q st) : ex P T .skip (seqQ (ex P T c Q) Q') st := h
theorem ex_bl {n : Nat} (h : ex P T a (blockQ n Q) st) : ex P T (.block n a) Q st := h
theorem ex_drawn {id : Nat} {ops : Array Oper} (he : edgesB ops.toList = true) (h : AD P T ops.toList (ixOps ops.toList 0) st [] fun acc s => pairR ops.toList acc = true ∧ Q .normal s) :
    ex P T (.region id ops true) Q st := ad_in he h
end
end Go.AM
