/- Part of the proof: an abstract machine, and that it is sound. -/
import Derived.WalkKit
import Derived.Below
import Derived.Laws.Cells
import Derived.Laws.CopyRow
import Derived.Lib.FrozenHead
import Derived.Room.Entries
import Derived.IntWalk
import Derived.Laws.StructEq
import Derived.Laws.IdiomStrings
import Derived.Laws.BytesString
import Derived.Maps.RangeRun
import Derived.LoopNIn
import Derived.RangeFuncLeaves
import Derived.RangeFuncSeq
import Derived.RangeFuncRecord
import Derived.Lib.LaidTab
import Derived.Lib.ItoaNum
namespace Go.AM
open Go Go.RowKit

inductive PV where
 | int (k : IntKind) (n : Int)
 | bool (b : Bool)
 | str (s : List UInt8)
 | nilI
 | nilP
 | nilF
 | ifc (t : TypeId) (p : PV)
 | agg (n : Nat) (f : Nat → PV)
 | seq (E : TypeId) (sz n : Nat) (f : Nat → Nat → PV)

inductive AV where
 | pv (p : PV)
 | nilS
 | row (id gen sz off len : Nat)
 | ptr (id gen sz i off : Nat)
 | rptr (n : Nat) (f : Nat → PV)
 | agg (n : Nat) (f : Nat → AV)
 | tup (n : Nat) (f : Nat → AV)
 | func (fn : Fn) (nf : Nat) (first : Nat → AV) (nc : Nat) (caps : Nat → AV)
 | obj (id gen : Nat)
 | nilM

structure AO where
 E : Nat
 gen : Nat
 sz : Nat
 n : Nat
 f : Nat → Nat → AV

abbrev Heap := Nat → Option AO
abbrev Names := Nat → Nat → Option Nat
abbrev Blocks := Nat → Prop

def bsize (w : World) (b : Nat) : Nat :=
 match w.heap[b]? with
 | some (.cells c _ _) => c.size
 | _ => 0

inductive Rp (w : World) (M : Blocks) : PV → Value → Prop
 | int (k : IntKind) (n : Int) : Rp w M (.int k n) (.int k n)
 | bool (b : Bool) : Rp w M (.bool b) (.bool b)
 | str (s : List UInt8) : Rp w M (.str s) (.string ⟨s.toArray⟩)
 | nilI : Rp w M .nilI .nilIface
 | nilP : Rp w M .nilP (.pointer none)
 | nilF : Rp w M .nilF .nilFunc
 | ifc (t : TypeId) (p : PV) (v : Value) : Rp w M p v → Rp w M (.ifc t p) (.iface t v)
 | agg (n : Nat) (f : Nat → PV) (cs : Array Value) : cs.size = n → (∀ i, i < n → (cs.getD i undef).oneCell' = true) →
    (∀ i, i < n → Rp w M (f i) (cs.getD i undef)) → Rp w M (.agg n f) (.agg cs)
 | seq0 (E : TypeId) (sz : Nat) (f : Nat → Nat → PV) (a : Option Addr) (c : Nat) : Rp w M (.seq E sz 0 f) (.slice a 0 c)
 | seq (E : TypeId) (sz n : Nat) (f : Nat → Nat → PV) (b o c : Nat) (g : Nat → Nat → Value) : M b → n ≤ c →
    (∀ i j, i < n → j < sz → w.cell? ⟨b, o + i * sz + j, none⟩ = some (g i j)) →
    (∀ i j, i < n → j < sz → (g i j).oneCell' = true) →
    (∀ i j, i < n → j < sz → Rp w M (f i j) (g i j)) → Rp w M (.seq E sz n f) (.slice (some ⟨b, o, none⟩) n c)

inductive Ra (φ : Names) (w : World) (M : Blocks) : AV → Value → Prop
 | pv (p : PV) (v : Value) : Rp w M p v → Ra φ w M (.pv p) v
 | nilS : Ra φ w M .nilS (.slice none 0 0)
 | row (id gen sz off len b c : Nat) : φ id gen = some b → len ≤ c → (off + c) * sz ≤ bsize w b →
    Ra φ w M (.row id gen sz off len) (.slice (some ⟨b, off * sz, none⟩) len c)
 | row0 (id gen sz off : Nat) (a : Option Addr) : Ra φ w M (.row id gen sz off 0) (.slice a 0 0)
 | ptr (id gen sz i off b : Nat) : φ id gen = some b → Ra φ w M (.ptr id gen sz i off) (.pointer (some ⟨b, i * sz + off, none⟩))
 | rptr (n : Nat) (f : Nat → PV) (b o : Nat) (g : Nat → Value) : M b → (∀ j, j < n → w.cell? ⟨b, o + j, none⟩ = some (g j)) →
    (∀ j, j < n → (g j).oneCell' = true) → (∀ j, j < n → Rp w M (f j) (g j)) → Ra φ w M (.rptr n f) (.pointer (some ⟨b, o, none⟩))
 | agg (n : Nat) (f : Nat → AV) (cs : Array Value) : cs.size = n → (∀ i, i < n → (cs.getD i undef).oneCell' = true) →
    (∀ i, i < n → Ra φ w M (f i) (cs.getD i undef)) → Ra φ w M (.agg n f) (.agg cs)
 | tup (n : Nat) (f : Nat → AV) (vs : Array Value) : vs.size = n →
    (∀ i, i < n → Ra φ w M (f i) (vs.getD i undef)) → Ra φ w M (.tup n f) (.tuple vs)
 | func (fn : Fn) (nf : Nat) (first : Nat → AV) (nc : Nat) (caps : Nat → AV) (xs ys : Array Value) : xs.size = nf → ys.size = nc →
    (∀ i, i < nf → Ra φ w M (first i) (xs.getD i undef)) → (∀ i, i < nc → Ra φ w M (caps i) (ys.getD i undef)) →
    Ra φ w M (.func fn nf first nc caps) (.func fn xs ys)
 | mp (id gen b : Nat) : gen < 2 → φ id gen = some b → Ra φ w M (.obj id gen) (.map (some b))
 | it (id b : Nat) : φ id 2 = some b → Ra φ w M (.obj id 2) (.pointer (some ⟨b, 0, none⟩))
 | nilM : Ra φ w M .nilM (.map none)

theorem Rp.mono {w w' : World} {M M' : Blocks} (hM : ∀ b, M b → M' b) (hw : ∀ b, M b → w'.heap[b]? = w.heap[b]?) {p : PV} {v : Value} (h : Rp w M p v) : Rp w' M' p v := by
 induction h with
 | int k n => exact .int k n
 | bool b => exact .bool b
 | str s => exact .str s
 | nilI => exact .nilI
 | nilP => exact .nilP
 | nilF => exact .nilF
 | ifc t p v _ ih => exact .ifc t p v ih
 | agg n f cs h1 h2 _ ih => exact .agg n f cs h1 h2 ih
 | seq0 E sz f a c => exact .seq0 E sz f a c
 | seq E sz n f b o c g h1 h2 h3 h4 _ ih =>
   refine .seq E sz n f b o c g (hM b h1) h2 (fun i j hi hj => ?_) h4 ih
   have := h3 i j hi hj
   rw [World.cell?_of_block (w := w) (hw b h1)]
   exact this

theorem Ra.mono {φ φ' : Names} {w w' : World} {M M' : Blocks} (hφ : ∀ i g b, φ i g = some b → φ' i g = some b) (hM : ∀ b, M b → M' b)
  (hw : ∀ b, M b → w'.heap[b]? = w.heap[b]?) (hs : ∀ b, bsize w b ≤ bsize w' b) {v : AV} {x : Value} (h : Ra φ w M v x) : Ra φ' w' M' v x := by
 induction h with
 | pv p v h => exact .pv p v (h.mono hM hw)
 | nilS => exact .nilS
 | row id gen sz off len b c h1 h2 h3 => exact .row id gen sz off len b c (hφ _ _ _ h1) h2 (Nat.le_trans h3 (hs b))
 | row0 id gen sz off a => exact .row0 id gen sz off a
 | ptr id gen sz i off b h1 => exact .ptr id gen sz i off b (hφ _ _ _ h1)
 | rptr n f b o g h1 h2 h3 h4 =>
   refine .rptr n f b o g (hM b h1) (fun j hj => ?_) h3 (fun j hj => (h4 j hj).mono hM hw)
   rw [World.cell?_of_block (w := w) (hw b h1)]
   exact h2 j hj
 | agg n f cs h1 h2 _ ih => exact .agg n f cs h1 h2 ih
 | tup n f vs h1 _ ih => exact .tup n f vs h1 ih
 | func fn nf first nc caps xs ys h1 h2 _ _ ih1 ih2 => exact .func fn nf first nc caps xs ys h1 h2 ih1 ih2
 | mp id gen b h1 h2 => exact .mp id gen b h1 (hφ _ _ _ h2)
 | it id b h1 => exact .it id b (hφ _ _ _ h1)
 | nilM => exact .nilM

def KeyOk : Nat → AV → Prop
 | 0, v => ∃ n, v = .pv (.int .i64 n)
 | 1, v => ∃ s, v = .pv (.str s)
 | _, _ => False

def ObjB (φ : Names) (w : World) (M : Blocks) (o : AO) : Obj → Prop
 | .map es clock => o.gen < 2 ∧ es.size = o.E ∧ clock = o.E ∧ (∀ i j, i < o.E → j < o.E → o.f i 0 = o.f j 0 → i = j) ∧ ∀ i e, es[i]? = some e → e.born = i ∧ Ra φ w M (o.f i 0) e.key ∧ Ra φ w M (o.f i 1) e.val ∧ KeyOk o.gen (o.f i 0)
 | .mapIter (some m) since seen last => o.gen = 2 ∧ since = o.E ∧ last = o.E ∧ Ra φ w M (o.f 0 0) (.map (some m)) ∧ (∀ i, i < o.E → o.f i 1 = .pv (.bool (seen.contains i))) ∧ ∀ k, o.f 1 0 = .pv (.int .i64 k) → ∃ (i : Nat) (s : Array Nat), k = i ∧ seen = s.push i
 | _ => False
def ObjAt (φ : Names) (w : World) (M : Blocks) (o : AO) (q : Option Nat) : Prop := o.sz = 0 ∧ ∃ b B, q = some b ∧ w.heap[b]? = some B ∧ ¬ M b ∧ ObjB φ w M o B
theorem ObjB.go {φ φ' : Names} {w w' : World} {M M' : Blocks} {o : AO} {B : Obj} (hR : ∀ v x, Ra φ w M v x → Ra φ' w' M' v x) (h : ObjB φ w M o B) : ObjB φ' w' M' o B := by
 unfold ObjB at h ⊢
 split at h
 ·obtain ⟨h1, h2, h3, h5, h4⟩ := h
  exact ⟨h1, h2, h3, h5, fun i e he => ⟨(h4 i e he).1, hR _ _ (h4 i e he).2.1, hR _ _ (h4 i e he).2.2.1, (h4 i e he).2.2.2⟩⟩
 ·exact ⟨h.1, h.2.1, h.2.2.1, hR _ _ h.2.2.2.1, h.2.2.2.2⟩
 ·exact h.elim
theorem ObjAt.go {φ φ' : Names} {w w' : World} {M M' : Blocks} {o : AO} {q q' : Option Nat} (hq : ∀ b, q = some b → q' = some b) (hw : ∀ b, q = some b → b < w.heap.size → ¬ M b → w'.heap[b]? = w.heap[b]?) (hM : ∀ b, q = some b → b < w.heap.size → ¬ M b → ¬ M' b)
  (hR : ∀ v x, Ra φ w M v x → Ra φ' w' M' v x) (h : ObjAt φ w M o q) : ObjAt φ' w' M' o q' := by
 obtain ⟨h0, b, B, h1, h2, h3, h4⟩ := h
 have hb : b < w.heap.size := (Array.getElem?_eq_some_iff.mp h2).1
 exact ⟨h0, b, B, hq b h1, by rw [hw b h1 hb h3]; exact h2, hM b h1 hb h3, h4.go hR⟩
theorem ObjAt.or {φ φ' : Names} {w w' : World} {M M' : Blocks} {o : AO} {q q' : Option Nat} (h : q = none ∨ ObjAt φ w M o q) (hn : q = none → q' = none) (hq : ∀ b, q = some b → q' = some b) (hw : ∀ b, q = some b → b < w.heap.size → ¬ M b → w'.heap[b]? = w.heap[b]?) (hM : ∀ b, q = some b → b < w.heap.size → ¬ M b → ¬ M' b)
  (hR : ∀ v x, Ra φ w M v x → Ra φ' w' M' v x) : q' = none ∨ ObjAt φ' w' M' o q' := h.imp hn (ObjAt.go hq hw hM hR)
theorem ObjAt.lt {φ : Names} {w : World} {M : Blocks} {o : AO} {q : Option Nat} {b : Nat} (h : q = none ∨ ObjAt φ w M o q) (hb : q = some b) : b < w.heap.size := by
 rcases h with h | ⟨_, c, B, h1, h2, _⟩
 ·rw [h] at hb; cases hb
 ·rw [h1] at hb; obtain rfl := Option.some.inj hb; exact (Array.getElem?_eq_some_iff.mp h2).1
theorem ObjAt.nm {φ : Names} {w : World} {M : Blocks} {o : AO} {q : Option Nat} {b : Nat} (h : q = none ∨ ObjAt φ w M o q) (hb : q = some b) : ¬ M b := by
 rcases h with h | ⟨_, c, B, h1, _, h3, _⟩
 ·rw [h] at hb; cases hb
 ·rw [h1] at hb; obtain rfl := Option.some.inj hb; exact h3
theorem ObjAt.no {φ : Names} {w : World} {M : Blocks} {o : AO} {q : Option Nat} {b : Nat} {arr : Array Value} {E : TypeId} {fz : Nat × Nat} (h : q = none ∨ ObjAt φ w M o q) (hb : q = some b) (hc : w.heap[b]? = some (.cells arr E fz)) : False := by
 rcases h with h | ⟨_, c, B, h1, h2, _, h4⟩
 ·rw [h] at hb; cases hb
 ·rw [h1] at hb; obtain rfl := Option.some.inj hb; rw [hc] at h2; obtain rfl := Option.some.inj h2; exact h4.elim

def FzOk (fz : Nat × Nat) (n : Nat) : Prop := fz.1 = fz.2 ∨ n ≤ fz.1
theorem FzOk.out {fz : Nat × Nat} {n : Nat} (h : FzOk fz n) : ∀ k, k < n → ¬ (fz.1 ≤ k ∧ k < fz.2) := by
 intro k hk; rcases h with h | h <;> omega
theorem FzOk.zero (n : Nat) : FzOk (0, 0) n := .inl rfl

structure HR (φ : Names) (M : Blocks) (w : World) (H : Heap) : Prop where
 own : ∀ id o, H id = some o → (o.n = 0 ∧ (φ id o.gen = none ∨ ObjAt φ w M o (φ id o.gen))) ∨ ∃ b arr fz, φ id o.gen = some b ∧ w.heap[b]? = some (.cells arr o.E fz) ∧
  FzOk fz arr.size ∧ (o.sz ≠ 0 ∧ o.n * o.sz ≤ arr.size) ∧ ¬ M b ∧
  (∀ i j, i < o.n → j < o.sz → (arr.getD (i * o.sz + j) undef).oneCell' = true) ∧
  (∀ i j, i < o.n → j < o.sz → Ra φ w M (o.f i j) (arr.getD (i * o.sz + j) undef))
 inj : ∀ id1 id2 o1 o2 b, H id1 = some o1 → H id2 = some o2 → φ id1 o1.gen = some b → φ id2 o2.gen = some b → id1 = id2
 last : ∀ id o g b, H id = some o → φ id g = some b → g ≤ o.gen
 mlt : ∀ b, M b → b < w.heap.size

structure Ext where
 yl : Option Nat
 valid : List (List AV) → Prop
 log : List (List AV)
 stop : Bool
 gs : Nat → Option AV
 inR : Bool
 kp : List Nat
def X0 : Ext := ⟨none, fun _ => True, [], false, fun _ => none, false, []⟩

structure ASt where
 nt : Nat
 slots : Nat → Option AV
 heap : Heap
 used : List Nat
 x : Ext

structure Came where
 w : World
 own : Blocks
 M : Blocks
 no : Blocks

structure Mem (C : Came) (φ : Names) (M : Blocks) (H : Heap) (U : List Nat) (w : World) : Prop where
 heap : HR φ M w H
 used : ∀ id g b, φ id g = some b → id ∈ U
 dom : ∀ id o, H id = some o → id ∈ U
 os : w.os = C.w.os
 tape : w.tape = C.w.tape
 output : w.output = C.w.output
 size : C.w.heap.size ≤ w.heap.size
 frame : ∀ b, b < C.w.heap.size → ¬ C.own b → w.heap[b]? = C.w.heap[b]?
 fresh : ∀ id o b, H id = some o → φ id o.gen = some b → C.own b ∨ C.w.heap.size ≤ b
 reads : ∀ b, M b → C.M b ∨ C.own b ∨ C.w.heap.size ≤ b
 keeps : ∀ b, C.M b → M b
 sizes : ∀ b, bsize C.w b ≤ bsize w b
 nlt : ∀ i g b, φ i g = some b → b < w.heap.size ∧ ¬ C.no b
 far : (∀ b, M b → ¬ C.no b) ∧ ∀ b, C.no b → b < C.w.heap.size

structure Ctx where
 rd : Option Nat
 yl : Option Nat
 valid : List (List AV) → Prop
 ghost : Nat → Option Value
 Γ : List (List AV) → Bool → Came → Prop
 ds : List Deferred := []
 nm : Nat → Nat → Option Nat := fun _ _ => none

def Marks (C : Came) (M : Blocks) (w : World) (ds df : List Deferred) : Prop :=
 ∃ ms, df = ms ++ ds ∧ ms.Nodup ∧ ∀ d ∈ ms, ∃ D, d = { target := .collected D, args := #[] } ∧ M D ∧ w.heap[D]? = some (.deferred (some [])) ∧ (C.own D ∨ C.w.heap.size ≤ D)

structure Good (K : Ctx) (φ : Names) (M : Blocks) (st : ASt) (a : Act) (w : World) : Prop where
 slots : ∀ t v, st.slots t = some v → ∃ x, a.tmps[t]? = some x ∧ Ra φ w M v x
 gslots : ∀ t v, st.x.gs t = some v → ∃ x, K.ghost t = some x ∧ Ra φ w M v x
 nms : ∀ i g b, K.nm i g = some b → φ i g = some b ∧ i ∈ st.x.kp
 mem : ∃ C, K.Γ st.x.log st.x.stop C ∧ Mem C φ M st.heap st.used w ∧ Marks C M w K.ds a.defers
 wide : st.nt ≤ a.tmps.size
 yl : st.x.yl = K.yl
 valid : st.x.valid = K.valid
 inr : K.rd.isSome = true → st.x.inR = true
 rdd : st.x.inR = true → a.defers = K.ds


inductive TK where
 | int (k : IntKind)
 | bool
 | str
 | ptr (E : TypeId)
 | slice (E : TypeId)
 | arr (n : Nat) (E : TypeId)
 | struct (fs : List (Nat × TypeId))
 | iface
 | func
 | map (k e : TypeId)
 | tuple

structure TI where
 kind : TK
 size : Nat
 bytes : Nat
 zero : Nat → AV

abbrev Tab := List (Nat × TI)

def Tab.get : Tab → Nat → Option TI
 | [], _ => none
 | (u, i) :: T, t => bif Nat.beq u t then some i else Tab.get T t

def TK.agg : TK → Bool
 | .arr .. | .struct _ => true
 | _ => false

def TK.is : TK → TypeDesc → Bool
 | .int k, .int j => k == j
 | .bool, .bool => true
 | .str, .string => true
 | .ptr e, .pointer u => e == u
 | .slice e, .slice u => e == u
 | .arr n e, .array m u => n == m && e == u
 | .struct fs, .struct gs => fs == gs.toList.map fun g => (g.offset, g.type)
 | .iface, .interface _ => true
 | .func, .func .. => true
 | .map a b, .map c d => a == c && b == d
 | .tuple, .tuple _ => true
 | _, _ => false

def isZero : AV → Value → Bool
 | .pv (.int k n), .int j m => k == j && n == m
 | .pv (.bool b), .bool c => b == c
 | .pv (.str []), .string s => s.data.toList == []
 | .pv .nilI, .nilIface => true
 | .pv .nilP, .pointer none => true
 | .pv .nilF, .nilFunc => true
 | .nilS, .slice none 0 0 => true
 | .nilM, .map none => true
 | _, _ => false

def eqOk (P : Program) (t : TypeId) : Bool :=
 match P.underlying t with
 | some (.struct gs) => gs.toList.all (fun f => f.name != "_") && !P.stoodInHeld t && Nat.ble 8 P.depth
 | _ => true

def TI.ok (P : Program) (t : TypeId) (ti : TI) : Bool :=
 match P.underlying t, P.info? t with
 | some d, some i => ti.kind.is d && i.size == ti.size && i.bytes == ti.bytes &&
    eqOk P t && (match i.zero with
     | some z => (match z with | .agg _ => ti.kind.agg | _ => !ti.kind.agg) && z.cells.size == ti.size && (List.range ti.size).all fun j => isZero (ti.zero j) (z.cells.getD j undef)
     | none => false)
 | _, _ => false

def Tab.ok (P : Program) (T : Tab) : Bool := T.all fun (t, ti) => ti.ok P t

inductive Eff where
 | none
 | upd (id : Nat) (o : AO)
 | new (id : Nat) (o : AO)
 | app (id : Nat) (o : AO)

structure Res where
 ob : Option Prop
 v : AV
 eff : Eff

def Res.obl (r : Res) : Prop :=
 match r.ob with
 | none => True
 | some p => p

def PV.isCell : PV → Bool
 | .agg .. => false
 | _ => true
def AV.isCell : AV → Bool
 | .pv p => p.isCell
 | .agg .. | .tup .. => false
 | _ => true

def allN (p : Nat → Bool) : Nat → Bool
 | 0 => true
 | n + 1 => allN p n && p n

def okRes (v : AV) : Option Res := some ⟨none, v, .none⟩
def okIf (p : Prop) (v : AV) : Option Res := some ⟨some p, v, .none⟩

def constPV : Value → Option PV
 | .int k n => some (.int k n)
 | .bool b => some (.bool b)
 | .string s => some (.str s.data.toList)
 | .nilIface => some .nilI
 | .pointer none => some .nilP
 | .nilFunc => some .nilF
 | _ => none
def constAV : Value → Option AV
 | .slice none 0 0 => some .nilS
 | .map none => some .nilM
 | v => (constPV v).map .pv

def evalO (s : Nat → Option AV) : Operand → Option AV
 | .tmp t => s t
 | .const v => constAV v
 | .func f => some (.func (.func f) 0 (fun _ => .nilS) 0 (fun _ => .nilS))
 | .global _ => none

def inI64 (n : Int) : Prop := -9223372036854775808 ≤ n ∧ n ≤ 9223372036854775807

def arith (k : IntKind) (n : Int) : Option Res :=
 match k with
 | .i64 => okIf (inI64 n) (.pv (.int .i64 n))
 | k => okRes (.pv (.int k (k.wrap n)))

def bitsOf (op : BinOp) (k : IntKind) (x y : Int) : Int :=
 let a := BitVec.ofInt k.bits x
 let b := BitVec.ofInt k.bits y
 match op with
 | .and => k.wrap (a &&& b).toNat
 | .or => k.wrap (a ||| b).toNat
 | .xor => k.wrap (a ^^^ b).toNat
 | _ => k.wrap (a &&& ~~~b).toNat

def binInt (op : BinOp) (k : IntKind) (a b : Int) : Option Res :=
 match op with
 | .add => arith k (a + b)
 | .sub => arith k (a - b)
 | .mul => arith k (a * b)
 | .quo => match k with
   | .i64 => okIf (b ≠ 0 ∧ inI64 (a.tdiv b)) (.pv (.int .i64 (a.tdiv b)))
   | k => okIf (b ≠ 0) (.pv (.int k (k.wrap (a.tdiv b))))
 | .rem => okIf (b ≠ 0) (.pv (.int k (a.tmod b)))
 | .and => okRes (.pv (.int k (bitsOf .and k a b)))
 | .or => okRes (.pv (.int k (bitsOf .or k a b)))
 | .xor => okRes (.pv (.int k (bitsOf .xor k a b)))
 | .andNot => okRes (.pv (.int k (bitsOf .andNot k a b)))
 | .eql => okRes (.pv (.bool (a == b)))
 | .neq => okRes (.pv (.bool (a != b)))
 | .lss => okRes (.pv (.bool (decide (a < b))))
 | .leq => okRes (.pv (.bool (decide (a ≤ b))))
 | .gtr => okRes (.pv (.bool (decide (b < a))))
 | .geq => okRes (.pv (.bool (decide (b ≤ a))))
 | _ => none

def shiftInt (op : BinOp) (k : IntKind) (a b : Int) : Option Res :=
 match op with
 | .shl => okIf (0 ≤ b) (.pv (.int k (k.wrap (a * 2 ^ (min b.toNat k.bits)))))
 | .shr => okIf (0 ≤ b) (.pv (.int k (a.fdiv (2 ^ (min b.toNat k.bits)))))
 | _ => none

def binStr (op : BinOp) (a b : List UInt8) : Option Res :=
 match op with
 | .add => okIf ((a.length : Int) + b.length ≤ 9223372036854775807) (.pv (.str (a ++ b)))
 | .eql => okRes (.pv (.bool (a == b)))
 | .neq => okRes (.pv (.bool (!(a == b))))
 | .lss => okRes (.pv (.bool (Op.bytesLess a b)))
 | .leq => okRes (.pv (.bool (Op.bytesLess a b || a == b)))
 | .gtr => okRes (.pv (.bool (!(Op.bytesLess a b || a == b))))
 | .geq => okRes (.pv (.bool (!(Op.bytesLess a b))))
 | _ => none

def isShift : BinOp → Bool
 | .shl | .shr => true
 | _ => false

def eqFs (T : Tab) (e : TypeId → AV → AV → Option Bool) (n : Nat) (f g : Nat → AV) : List (Nat × TypeId) → Option Bool
 | [] => some true
 | (o, ft) :: fs =>
   match T.get ft with
   | some fi => bif Nat.ble (o + fi.size) n && (fi.kind.agg || Nat.beq fi.size 1) then
      match e ft (bif fi.kind.agg then .agg fi.size fun j => f (o + j) else f (o + 0)) (bif fi.kind.agg then .agg fi.size fun j => g (o + j) else g (o + 0)), eqFs T e n f g fs with
      | some a, some b => some (a && b)
      | _, _ => none
     else none
   | none => none
def eqAt (T : Tab) : Nat → TypeId → AV → AV → Option Bool
 | 0, _, _, _ => none
 | d + 1, t, x, y =>
   match T.get t with
   | some ti =>
     match ti.kind, x, y with
     | .int _, .pv (.int k a), .pv (.int j b) => bif k == j then some (a == b) else none
     | .bool, .pv (.bool a), .pv (.bool b) => some (a == b)
     | .str, .pv (.str a), .pv (.str b) => some (a == b)
     | .struct fs, .agg n f, .agg m g => bif Nat.beq n m then eqFs T (eqAt T d) n f g fs else none
     | _, _, _ => none
   | none => none

def opBin (T : Tab) (op : BinOp) (xT : TypeId) (x y : AV) : Option Res :=
 match x, y with
 | .pv (.int k a), .pv (.int j b) => bif isShift op then shiftInt op k a b else bif k == j then binInt op k a b else none
 | .pv (.str a), .pv (.str b) => binStr op a b
 | .pv (.bool a), .pv (.bool b) => match op, T.get xT with
   | .eql, some ⟨.bool, _, _, _⟩ => okRes (.pv (.bool (a == b)))
   | .neq, some ⟨.bool, _, _, _⟩ => okRes (.pv (.bool (!(a == b))))
   | _, _ => none
 | .agg n f, .agg m g => match op, eqAt T 8 xT (.agg n f) (.agg m g) with
   | .eql, some b => okRes (.pv (.bool b))
   | .neq, some b => okRes (.pv (.bool (!b)))
   | _, _ => none
 | _, _ => none

def opConvert (T : Tab) (src dst : TypeId) (x : AV) : Option Res :=
 match T.get src, T.get dst, x with
 | some _, some ⟨.int k, _, _, _⟩, .pv (.int _ n) => okRes (.pv (.int k (k.wrap n)))
 | some _, some ⟨.str, _, _, _⟩, .pv (.str s) => okRes (.pv (.str s))
 | _, _, _ => none

def cellsOf (ti : TI) (v : AV) : Option (Nat → AV) :=
 bif ti.kind.agg then
  match v with
  | .agg n f => bif Nat.beq n ti.size && allN (fun j => (f j).isCell) n then some f else none
  | _ => none
 else bif v.isCell && Nat.beq ti.size 1 then some (fun _ => v) else none

def valueOf (ti : TI) (f : Nat → AV) : AV := bif ti.kind.agg then .agg ti.size f else f 0

def opLoad (T : Tab) (t : TypeId) (x : AV) (H : Heap) : Option Res :=
 match T.get t with
 | none => none
 | some ti => bif !ti.kind.agg && !Nat.beq ti.size 1 then none else
   match x with
   | .rptr n f => okIf (ti.size ≤ n) (valueOf ti fun j => .pv (f j))
   | .ptr id gen sz i off =>
     match H id with
     | some o => okIf (gen = o.gen ∧ sz = o.sz ∧ i < o.n ∧ off + ti.size ≤ sz) (valueOf ti fun j => o.f i (off + j))
     | none => none
   | _ => none

def setCells (f : Nat → Nat → AV) (i off n : Nat) (g : Nat → AV) : Nat → Nat → AV :=
 fun i' j' => bif Nat.beq i' i then (bif Nat.ble off j' && Nat.ble (j' + 1) (off + n) then g (j' - off) else f i' j') else f i' j'

def opStore (T : Tab) (t : TypeId) (x v : AV) (H : Heap) : Option Res :=
 match T.get t, x with
 | some ti, .ptr id gen sz i off =>
   match H id, cellsOf ti v with
   | some o, some g => some ⟨some (gen = o.gen ∧ sz = o.sz ∧ i < o.n ∧ off + ti.size ≤ sz), .nilS, .upd id { o with f := setCells o.f i off ti.size g }⟩
   | _, _ => none
 | _, _ => none

def cellsOf1 (ti : TI) (v : AV) : Option (Nat → AV) := bif Nat.beq ti.size 0 then none else cellsOf ti v
def Tab.get1 (T : Tab) (t : Nat) : Option TI :=
 match T.get t with
 | some ti => bif Nat.beq ti.size 0 then none else some ti
 | none => none
theorem cellsOf1_out {ti : TI} {v : AV} {g : Nat → AV} (h : cellsOf1 ti v = some g) : ti.size ≠ 0 ∧ cellsOf ti v = some g := by
 unfold cellsOf1 at h
 cases hb : Nat.beq ti.size 0 with
 | true => rw [hb] at h; cases h
 | false => rw [hb] at h; exact ⟨fun e => (by rw [e] at hb; cases hb), h⟩
theorem Tab.get1_out {T : Tab} {t : Nat} {ti : TI} (h : T.get1 t = some ti) : ti.size ≠ 0 ∧ T.get t = some ti := by
 unfold Tab.get1 at h
 split at h
 ·rename_i ti' hti
  cases hb : Nat.beq ti'.size 0 with
  | true => rw [hb] at h; cases h
  | false => rw [hb] at h; obtain rfl := Option.some.inj h; exact ⟨fun e => (by rw [e] at hb; cases hb), hti⟩
 ·cases h

def opBox (T : Tab) (t : TypeId) (v : AV) (d : Nat) : Option Res :=
 match T.get t with
 | some ti =>
   match cellsOf1 ti v with
   | some g => some ⟨none, .ptr d 0 ti.size 0 0, .new d ⟨t, 0, ti.size, 1, fun _ j => g j⟩⟩
   | none => none
 | none => none

def opAlloc (T : Tab) (t : TypeId) (d : Nat) : Option Res :=
 match T.get1 t with
 | some ti => some ⟨none, .ptr d 0 ti.size 0 0, .new d ⟨t, 0, ti.size, 1, fun _ j => ti.zero j⟩⟩
 | none => none

def opFieldAddr (T : Tab) (s : TypeId) (x : AV) (k : Nat) : Option Res :=
 match T.get s with
 | some ⟨.struct fs, _, _, _⟩ =>
   match fs[k]? with
   | some (o, ft) =>
     match T.get ft with
     | some fi => bif Nat.beq fi.size 0 then none else
       match x with
       | .ptr id gen sz i off => okRes (.ptr id gen sz i (off + o))
       | .rptr n f => okIf (o ≤ n) (.rptr (n - o) fun j => f (o + j))
       | _ => none
     | none => none
   | none => none
 | _ => none

def opField (T : Tab) (s : TypeId) (x : AV) (k : Nat) : Option Res :=
 match T.get s, x with
 | some ⟨.struct fs, _, _, _⟩, .agg n f =>
   match fs[k]? with
   | some (o, ft) =>
     match T.get ft with
     | some fi => bif Nat.ble (o + fi.size) n && (fi.kind.agg || Nat.beq fi.size 1) then okRes (valueOf fi fun j => f (o + j)) else none
     | none => none
   | none => none
 | _, _ => none

def opIndexAddr (T : Tab) (t : TypeId) (x ix : AV) : Option Res :=
 match T.get t, ix with
 | some ⟨.slice E, _, _, _⟩, .pv (.int _ i) =>
   match T.get E with
   | some ei => match x with
     | .pv (.seq _ sz n f) => okIf (0 ≤ i ∧ i < n ∧ sz = ei.size) (.rptr sz fun j => f i.toNat j)
     | .row id gen sz off len => okIf (0 ≤ i ∧ i < len ∧ sz = ei.size) (.ptr id gen sz (off + i.toNat) 0)
     | _ => none
   | none => none
 | some ⟨.arr n E, _, _, _⟩, .pv (.int _ i) =>
   match T.get E with
   | some ei => match x with
     | .ptr id gen sz i0 off => okIf (0 ≤ i ∧ i < n ∧ 1 < n) (.ptr id gen sz i0 (off + i.toNat * ei.size))
     | .rptr m f => okIf (0 ≤ i ∧ i < n ∧ 1 < n ∧ i.toNat * ei.size ≤ m) (.rptr (m - i.toNat * ei.size) fun j => f (i.toNat * ei.size + j))
     | _ => none
   | none => none
 | _, _ => none

def opIndex (T : Tab) (t : TypeId) (x ix : AV) : Option Res :=
 match T.get t, x, ix with
 | some ⟨.str, _, _, _⟩, .pv (.str s), .pv (.int _ i) => okIf (0 ≤ i ∧ i < s.length) (.pv (.int .u8 (s.getD i.toNat 0).toNat))
 | some ⟨.arr n E, _, _, _⟩, .agg m f, .pv (.int _ i) =>
   match T.get E with
   | some ei => okIf (0 ≤ i ∧ i < n ∧ i.toNat * ei.size + ei.size ≤ m ∧ (ei.kind.agg = false → ei.size = 1)) (valueOf ei fun j => f (i.toNat * ei.size + j))
   | none => none
 | _, _, _ => none

def opSlice (T : Tab) (t : TypeId) (x : AV) (lo hi : Option AV) : Option Res :=
 match T.get t with
 | some ⟨.str, _, _, _⟩ =>
   match x, lo, hi with
   | .pv (.str s), some (.pv (.int _ l)), some (.pv (.int _ h)) => okIf (0 ≤ l ∧ l ≤ h ∧ h ≤ s.length) (.pv (.str ((s.take h.toNat).drop l.toNat)))
   | .pv (.str s), none, some (.pv (.int _ h)) => okIf (0 ≤ h ∧ h ≤ s.length) (.pv (.str (s.take h.toNat)))
   | .pv (.str s), some (.pv (.int _ l)), none => okIf (0 ≤ l ∧ l ≤ s.length) (.pv (.str (s.drop l.toNat)))
   | _, _, _ => none
 | some ⟨.slice E, _, _, _⟩ =>
   match T.get E, x, lo, hi with
   | some ei, .pv (.seq E' sz n f), some (.pv (.int _ l)), some (.pv (.int _ h)) => okIf (0 ≤ l ∧ l ≤ h ∧ h ≤ n ∧ sz = ei.size) (.pv (.seq E' sz (h - l).toNat fun i j => f (l.toNat + i) j))
   | some ei, .pv (.seq E' sz n f), none, some (.pv (.int _ h)) => okIf (0 ≤ h ∧ h ≤ n ∧ sz = ei.size) (.pv (.seq E' sz h.toNat f))
   | some ei, .pv (.seq E' sz n f), some (.pv (.int _ l)), none => okIf (0 ≤ l ∧ l ≤ n ∧ sz = ei.size) (.pv (.seq E' sz (n - l).toNat fun i j => f (l.toNat + i) j))
   | some ei, .row id gen sz off len, some (.pv (.int _ l)), some (.pv (.int _ h)) => okIf (0 ≤ l ∧ l ≤ h ∧ h ≤ len ∧ sz = ei.size) (.row id gen sz (off + l.toNat) (h - l).toNat)
   | some ei, .row id gen sz off len, none, some (.pv (.int _ h)) => okIf (0 ≤ h ∧ h ≤ len ∧ sz = ei.size) (.row id gen sz off h.toNat)
   | some ei, .row id gen sz off len, some (.pv (.int _ l)), none => okIf (0 ≤ l ∧ l ≤ len ∧ sz = ei.size) (.row id gen sz (off + l.toNat) (len - l).toNat)
   | _, _, _, _ => none
 | _ => none

def opSlice3 (T : Tab) (t : TypeId) (x lo hi mx : AV) : Option Res :=
 match T.get t with
 | some ⟨.slice E, _, _, _⟩ =>
   match T.get E, x, lo, hi, mx with
   | some ei, .pv (.seq E' sz n f), .pv (.int _ l), .pv (.int _ h), .pv (.int _ m) => okIf (0 ≤ l ∧ l ≤ h ∧ h ≤ m ∧ m ≤ n ∧ sz = ei.size) (.pv (.seq E' sz (h - l).toNat fun i j => f (l.toNat + i) j))
   | some ei, .row id gen sz off len, .pv (.int _ l), .pv (.int _ h), .pv (.int _ m) => okIf (0 ≤ l ∧ l ≤ h ∧ h ≤ m ∧ m ≤ len ∧ sz = ei.size) (.row id gen sz (off + l.toNat) (h - l).toNat)
   | _, _, _, _, _ => none
 | _ => none

def fillF (place : Nat → Option (Nat × Nat)) : List (Nat × AV) → (Nat → AV) → Option (Nat → AV)
 | [], f => some f
 | (i, v) :: r, f =>
   match place i with
   | none => none
   | some (off, size) =>
     match v with
     | .agg n g => bif Nat.beq n size && allN (fun j => (g j).isCell) n then fillF place r (fun j => bif Nat.ble off j && Nat.ble (j + 1) (off + n) then g (j - off) else f j) else none
     | v => bif Nat.beq size 1 && v.isCell then fillF place r (fun j => bif Nat.beq j off then v else f j) else none

def AV.isPv : AV → Bool
 | .pv _ => true
 | _ => false
def AV.toPv : AV → PV
 | .pv p => p
 | _ => .nilI
def liftV : PV → AV
 | .agg n f => .agg n fun i => .pv (f i)
 | p => .pv p
def opMakeIface (x : AV) (t : TypeId) : Option Res :=
 match x with
 | .pv p => okRes (.pv (.ifc t p))
 | .agg n f => bif allN (fun i => (f i).isPv) n then okRes (.pv (.ifc t (.agg n fun i => (f i).toPv))) else none
 | _ => none

def opUn (op : UnOp) (x : AV) : Option Res :=
 match op, x with
 | .not, .pv (.bool b) => okRes (.pv (.bool (!b)))
 | .neg, .pv (.int k n) => arith k (0 - n)
 | .xor, .pv (.int k n) => okRes (.pv (.int k (bitsOf .xor k (if k.signed then -1 else k.max) n)))
 | _, _ => none

def opPick (c a b : Option AV) : Option Res :=
 match c with
 | some (.pv (.bool true)) => match a with | some v => okRes v | none => none
 | some (.pv (.bool false)) => match b with | some v => okRes v | none => none
 | _ => none

def opExtract (x : AV) (i : Nat) : Option Res :=
 match x with
 | .tup n f => bif Nat.ble (i + 1) n then okRes (f i) else none
 | _ => none

def opLen (T : Tab) (t : TypeId) (x : AV) : Option Res :=
 match T.get t, x with
 | some ⟨.str, _, _, _⟩, .pv (.str s) => okRes (.pv (.int .i64 s.length))
 | some ⟨.slice _, _, _, _⟩, .pv (.seq _ _ n _) => okRes (.pv (.int .i64 n))
 | some ⟨.slice _, _, _, _⟩, .row _ _ _ _ len => okRes (.pv (.int .i64 len))
 | some ⟨.slice _, _, _, _⟩, .nilS => okRes (.pv (.int .i64 0))
 | some ⟨.arr n _, _, _, _⟩, _ => okRes (.pv (.int .i64 n))
 | _, _ => none

def opMax (x y : AV) : Option Res :=
 match x, y with
 | .pv (.int k a), .pv (.int _ b) => okRes (.pv (.int k (if b > a then b else a)))
 | _, _ => none
def opMin (x y : AV) : Option Res :=
 match x, y with
 | .pv (.int k a), .pv (.int _ b) => okRes (.pv (.int k (if b < a then b else a)))
 | _, _ => none

def placeOK (place : Nat → Option (Nat × Nat)) (n : Nat) (parts : List (Nat × AV)) : Bool :=
 parts.all fun q => match place q.1 with | some (o, s) => Nat.ble (o + s) n | none => false

def fillN (place : Nat → Option (Nat × Nat)) (n : Nat) (parts : List (Nat × AV)) (f : Nat → AV) : Option (Nat → AV) :=
 bif placeOK place n parts then fillF place parts f else none

def structPlace (T : Tab) (fs : List (Nat × TypeId)) (i : Nat) : Option (Nat × Nat) :=
 match fs[i]? with
 | some (o, ft) => (T.get ft).map fun fi => (o, fi.size)
 | none => none

def opBuild (T : Tab) (t : TypeId) (parts : List (Nat × AV)) : Option Res :=
 match T.get t with
 | some ti =>
   match ti.kind with
   | .struct fs => match fillN (structPlace T fs) ti.size parts ti.zero with
     | some f => okRes (.agg ti.size f)
     | none => none
   | .arr _ E => match T.get E with
     | some ei => match fillN (fun i => some (i * ei.size, ei.size)) ti.size parts ti.zero with
       | some f => okRes (.agg ti.size f)
       | none => none
     | none => none
   | _ => none
 | none => none

def rowOf (f : Nat → AV) (sz : Nat) : Nat → Nat → AV := fun i j => f (i * sz + j)

def opBuildSlice (T : Tab) (t : TypeId) (len : Nat) (parts : List (Nat × AV)) (d : Nat) : Option Res :=
 match T.get t with
 | some ⟨.slice E, _, _, _⟩ =>
   match T.get E with
   | some ei => bif Nat.ble (len * ei.size) 16777216 && !Nat.beq ei.size 0 then
      match fillN (fun i => some (i * ei.size, ei.size)) (len * ei.size) parts (fun k => ei.zero (k % ei.size)) with
      | some f => some ⟨none, .row d 0 ei.size 0 len, .new d ⟨E, 0, ei.size, len, rowOf f ei.size⟩⟩
      | none => none
     else none
   | none => none
 | _ => none

def opMakeSlice (T : Tab) (t : TypeId) (len cap : AV) (d : Nat) : Option Res :=
 match T.get t, len, cap with
 | some ⟨.slice E, _, _, _⟩, .pv (.int _ l), .pv (.int _ c) =>
   match T.get E with
   | some ei => bif Nat.beq ei.size 0 then none else some ⟨some (0 ≤ l ∧ l ≤ c ∧ c ≤ 140737488355328 ∧ c * ei.bytes ≤ 281474976710656), .row d 0 ei.size 0 l.toNat, .new d ⟨E, 0, ei.size, l.toNat, fun _ j => ei.zero j⟩⟩
   | none => none
 | _, _, _ => none

def srcOf (ei : TI) (x : AV) (H : Heap) : Option (Nat × (Nat → Nat → AV) × Prop) :=
 match x with
 | .pv (.seq _ sz n f) => some (n, fun i j => .pv (f i j), sz = ei.size)
 | .row id gen sz off len => match H id with
   | some o => some (len, fun i j => o.f (off + i) j, gen = o.gen ∧ sz = o.sz ∧ o.sz = ei.size ∧ off + len ≤ o.n)
   | none => none
 | .nilS => some (0, fun _ _ => .nilS, True)
 | .pv (.str s) => some (s.length, fun i _ => .pv (.int .u8 (s.getD i 0).toNat), ei.size = 1)
 | _ => none

def isIntK : TK → Bool
 | .int _ => true
 | _ => false

def catF (f g : Nat → Nat → AV) (n : Nat) : Nat → Nat → AV := fun i j => bif Nat.ble (i + 1) n then f i j else g (i - n) j

def opAppend (T : Tab) (sT xT : TypeId) (s x : AV) (H : Heap) (d : Nat) : Option Res :=
 match T.get sT, T.get xT with
 | some ⟨.slice E, _, _, _⟩, some xi =>
   match T.get E with
   | some ei => bif isIntK xi.kind || Nat.beq ei.bytes 0 || Nat.beq ei.size 0 then none else
     match srcOf ei x H with
     | some (n, g, p) =>
       match s with
       | .nilS => some ⟨some (p ∧ n * ei.bytes ≤ 140737488355328), .row d 0 ei.size 0 n, .new d ⟨E, 0, ei.size, n, g⟩⟩
       | .row id gen sz off len => match H id with
         | some o => some ⟨some (p ∧ gen = o.gen ∧ sz = ei.size ∧ o.sz = ei.size ∧ o.E = E ∧ off = 0 ∧ len = o.n ∧ (len + n) * ei.bytes ≤ 140737488355328),
            .row id (gen + 1) sz 0 (len + n), .app id ⟨E, gen + 1, ei.size, len + n, catF o.f g len⟩⟩
         | none => none
       | _ => none
     | none => none
   | none => none
 | _, _ => none

def PV.byte : PV → UInt8
 | .int _ n => UInt8.ofNat n.toNat
 | _ => 0
def AV.byte : AV → UInt8
 | .pv p => p.byte
 | _ => 0
def AV.isU8 : AV → Bool
 | .pv (.int .u8 _) => true
 | _ => false

def opStrOf (T : Tab) (src dst : TypeId) (x : AV) (H : Heap) : Option Res :=
 match T.get src, T.get dst with
 | some ⟨.slice E, _, _, _⟩, some ⟨.str, _, _, _⟩ =>
   match T.get E with
   | some ⟨.int .u8, _, _, _⟩ => match x with
     | .nilS => okRes (.pv (.str []))
     | .pv (.seq _ sz n f) => okIf (sz = 1 ∧ ∀ i, i < n → (AV.pv (f i 0)).isU8 = true) (.pv (.str ((List.range n).map fun i => (f i 0).byte)))
     | .row id gen sz off len => match H id with
       | some o => okIf (gen = o.gen ∧ sz = o.sz ∧ sz = 1 ∧ off + len ≤ o.n ∧ ∀ i, i < len → (o.f (off + i) 0).isU8 = true) (.pv (.str ((List.range len).map fun i => (o.f (off + i) 0).byte)))
       | none => none
     | _ => none
   | _ => none
 | _, _ => none

def opBytesOf (T : Tab) (src dst : TypeId) (x : AV) (d : Nat) : Option Res :=
 match T.get src, T.get dst, x with
 | some ⟨.str, _, _, _⟩, some ⟨.slice E, _, _, _⟩, .pv (.str s) =>
   match T.get E with
   | some ⟨.int .u8, 1, _, _⟩ => some ⟨none, .row d 0 1 0 s.length, .new d ⟨E, 0, 1, s.length, fun i _ => .pv (.int .u8 (s.getD i 0).toNat)⟩⟩
   | _ => none
 | _, _, _ => none


theorem Tab.sound {P : Program} {T : Tab} (h : T.ok P = true) {t : TypeId} {ti : TI} (ht : T.get t = some ti) : ti.ok P t = true := by
 induction T with
 | nil => simp [Tab.get] at ht
 | cons x T ih =>
   obtain ⟨u, i⟩ := x
   simp only [Tab.ok, List.all_cons, Bool.and_eq_true] at h
   simp only [Tab.get] at ht
   cases hb : Nat.beq u t with
   | true =>
     rw [hb] at ht
     have hu : u = t := Nat.eq_of_beq_eq_true hb
     simp only [cond_true, Option.some.injEq] at ht
     subst ht; subst hu; exact h.1
   | false =>
     rw [hb] at ht
     exact ih h.2 ht

structure TIs (P : Program) (t : TypeId) (ti : TI) (d : TypeDesc) (i : TypeInfo) : Prop where
 und : P.underlying t = some d
 info : P.info? t = some i
 kind : ti.kind.is d = true
 size : i.size = ti.size
 bytes : i.bytes = ti.bytes
 eqs : eqOk P t = true
 zero : ∃ z, i.zero = some z ∧ ((∃ cs, z = .agg cs) ↔ ti.kind.agg = true) ∧ z.cells.size = ti.size ∧ ∀ j, j < ti.size → isZero (ti.zero j) (z.cells.getD j undef) = true

theorem TI.sound {P : Program} {t : TypeId} {ti : TI} (h : ti.ok P t = true) : ∃ d i, TIs P t ti d i := by
 unfold TI.ok at h
 split at h
 ·rename_i d i hd hi
  simp only [Bool.and_eq_true, beq_iff_eq] at h
  obtain ⟨⟨⟨⟨h1, h2⟩, h3⟩, h5⟩, h4⟩ := h
  refine ⟨d, i, hd, hi, h1, h2, h3, h5, ?_⟩
  split at h4
  ·rename_i z hz
   simp only [Bool.and_eq_true, beq_iff_eq, List.all_eq_true, List.mem_range] at h4
   refine ⟨z, hz, ?_, h4.1.2, h4.2⟩
   cases z <;> simp_all
  ·simp at h4
 ·simp at h

theorem Tab.info {P : Program} {T : Tab} (h : T.ok P = true) {t : TypeId} {ti : TI} (ht : T.get t = some ti) : ∃ d i, TIs P t ti d i := TI.sound (Tab.sound h ht)

section
variable {P : Program} {t : TypeId} {ti : TI} {d : TypeDesc} {i : TypeInfo}

theorem TIs.run_sizeOf (s : TIs P t ti d i) (w : World) : (sizeOf t).run P w = .ok ti.size w := by
 simp [sizeOf, typeInfo, s.info, s.size]
theorem TIs.run_und (s : TIs P t ti d i) (w : World) : (underlying t).run P w = .ok d w := run_underlying s.und w
theorem TIs.run_isAgg (s : TIs P t ti d i) (w : World) : (isAgg t).run P w = .ok ti.kind.agg w := by
 have hk := s.kind
 simp only [isAgg, Sem.run_bind, s.run_und]
 cases hkk : ti.kind <;> cases d <;> simp_all [TK.is, TK.agg]
theorem TIs.run_info (s : TIs P t ti d i) (w : World) : (typeInfo t).run P w = .ok i w := by
 simp [typeInfo, s.info]
theorem TIs.run_zero (s : TIs P t ti d i) (w : World) : ∃ z, (zeroValue t).run P w = .ok z w ∧ ((∃ cs, z = .agg cs) ↔ ti.kind.agg = true) ∧ z.cells.size = ti.size ∧
  ∀ j, j < ti.size → isZero (ti.zero j) (z.cells.getD j undef) = true := by
 obtain ⟨z, hz, h⟩ := s.zero
 exact ⟨z, by simp [zeroValue, s.run_info, hz], h⟩
end

theorem allN_get {p : Nat → Bool} {n : Nat} (h : allN p n = true) : ∀ j, j < n → p j = true := by
 induction n with
 | zero => intro j hj; omega
 | succ n ih =>
   simp only [allN, Bool.and_eq_true] at h
   intro j hj
   by_cases hjn : j = n
   ·rw [hjn]; exact h.2
   ·exact ih h.1 j (by omega)

theorem isZero_sound {v : AV} {x : Value} (h : isZero v x = true) (φ : Names) (w : World) (M : Blocks) : Ra φ w M v x ∧ x.oneCell' = true ∧ v.isCell = true := by
 unfold isZero at h
 split at h <;> simp_all
 ·exact ⟨.pv _ _ (.int _ _), rfl, rfl⟩
 ·exact ⟨.pv _ _ (.bool _), rfl, rfl⟩
 ·rename_i s
  refine ⟨.pv _ _ ?_, rfl, rfl⟩
  have : s = ⟨([] : List UInt8).toArray⟩ := by
   cases s with | mk d => cases d with | mk l => simp_all
  rw [this]; exact .str []
 ·exact ⟨.pv _ _ .nilI, rfl, rfl⟩
 ·exact ⟨.pv _ _ .nilP, rfl, rfl⟩
 ·exact ⟨.pv _ _ .nilF, rfl, rfl⟩
 ·exact ⟨.nilS, rfl, rfl⟩
 ·exact ⟨.nilM, rfl, rfl⟩

theorem Rp.oneCell {w : World} {M : Blocks} {p : PV} {x : Value} (h : Rp w M p x) (hc : p.isCell = true) : x.oneCell' = true := by
 cases h <;> simp_all [PV.isCell, Value.oneCell']
theorem Ra.oneCell {φ : Names} {w : World} {M : Blocks} {v : AV} {x : Value} (h : Ra φ w M v x) (hc : v.isCell = true) : x.oneCell' = true := by
 cases h with
 | pv p x h => exact h.oneCell hc
 | _ => simp_all [AV.isCell, Value.oneCell']

theorem constPV_sound {v : Value} {p : PV} (h : constPV v = some p) (w : World) (M : Blocks) : Rp w M p v := by
 unfold constPV at h
 split at h <;> simp_all
 all_goals subst h
 ·exact .int _ _
 ·exact .bool _
 ·rename_i s; exact (show Rp w M (.str s.data.toList) (.string ⟨s.data.toList.toArray⟩) from .str _)
 ·exact .nilI
 ·exact .nilP
 ·exact .nilF

theorem constAV_sound {v : Value} {x : AV} (h : constAV v = some x) (φ : Names) (w : World) (M : Blocks) : Ra φ w M x v := by
 unfold constAV at h
 split at h
 ·simp only [Option.some.injEq] at h; subst h; exact .nilS
 ·simp only [Option.some.injEq] at h; subst h; exact .nilM
 ·obtain ⟨p, hp, rfl⟩ := Option.map_eq_some_iff.mp h
  exact .pv _ _ (constPV_sound hp w M)

theorem evalO_sound {φ : Names} {M : Blocks} {w : World} {s : Nat → Option AV} {a : Act} (hs : ∀ t v, s t = some v → ∃ x, a.tmps[t]? = some x ∧ Ra φ w M v x)
  {x : Operand} {v : AV} (h : evalO s x = some v) : Ra φ w M v (a.eval x) := by
 cases x with
 | tmp t =>
   obtain ⟨y, hy, hr⟩ := hs t v h
   simp only [Act.eval]
   rw [show a.tmps.getD t undef = y by simp [Array.getD_eq_getD_getElem?, hy]]
   exact hr
 | const c => exact constAV_sound h φ w M
 | global g => simp [evalO] at h
 | func f =>
   simp only [evalO, Option.some.injEq] at h
   subst h
   exact .func _ _ _ _ _ #[] #[] rfl rfl (fun i hi => absurd hi (by omega)) (fun i hi => absurd hi (by omega))

def Pure (P : Program) (φ : Names) (M : Blocks) (w : World) (s : Sem Value) (r : Res) : Prop :=
 r.eff = .none ∧ (r.obl → ∃ x, s.run P w = .ok x w ∧ Ra φ w M r.v x)

theorem Pure.ok {P : Program} {φ : Names} {M : Blocks} {w : World} {s : Sem Value} {v : AV} {r : Res} (h : okRes v = some r) (x : Value) (hs : s.run P w = .ok x w) (hr : Ra φ w M v x) : Pure P φ M w s r := by
 simp only [okRes, Option.some.injEq] at h; subst h; exact ⟨rfl, fun _ => ⟨x, hs, hr⟩⟩
theorem Pure.okIf {P : Program} {φ : Names} {M : Blocks} {w : World} {s : Sem Value} {v : AV} {r : Res} {p : Prop} (h : okIf p v = some r) (hs : p → ∃ x, s.run P w = .ok x w ∧ Ra φ w M v x) : Pure P φ M w s r := by
 simp only [AM.okIf, Option.some.injEq] at h; subst h; exact ⟨rfl, hs⟩

theorem wrap_in {n : Int} (h : inI64 n) : IntKind.i64.wrap n = n := IntWalk.i64_in _ h

section
variable {P : Program} {φ : Names} {M : Blocks} {w : World}

theorem intArith_pure {op : BinOp} {k : IntKind} {n x y : Int} {r : Res} (h : arith k n = some r) (he : Op.intArith op k x y = pure (.int k (k.wrap n))) : Pure P φ M w (Op.intArith op k x y) r := by
 rw [he]
 cases k with
 | i64 => exact .okIf h fun hp => ⟨_, rfl, by rw [wrap_in hp]; exact .pv _ _ (.int _ _)⟩
 | _ => exact .ok h _ rfl (.pv _ _ (.int _ _))

theorem binInt_pure {op : BinOp} {k : IntKind} {a b : Int} {r : Res} (h : binInt op k a b = some r) (xT : TypeId) : Pure P φ M w (binOp op xT (.int k a) (.int k b)) r := by
 cases op <;> simp only [binInt] at h <;> simp only [binOp, ne_eq, not_true_eq_false, if_false]
 case add => exact intArith_pure h rfl
 case sub => exact intArith_pure h rfl
 case mul => exact intArith_pure h rfl
 case quo =>
  split at h
  ·exact .okIf h fun hp => ⟨_, by simp only [Op.intDiv, if_neg hp.1]; rfl, by rw [wrap_in hp.2]; exact .pv _ _ (.int _ _)⟩
  ·exact .okIf h fun hp => ⟨_, by simp only [Op.intDiv, if_neg hp]; rfl, .pv _ _ (.int _ _)⟩
 case rem => exact .okIf h fun hp => ⟨_, by simp only [Op.intDiv, if_neg hp]; rfl, .pv _ _ (.int _ _)⟩
 case and => exact .ok h _ rfl (.pv _ _ (.int _ _))
 case or => exact .ok h _ rfl (.pv _ _ (.int _ _))
 case xor => exact .ok h _ rfl (.pv _ _ (.int _ _))
 case andNot => exact .ok h _ rfl (.pv _ _ (.int _ _))
 case eql => exact .ok h _ rfl (.pv _ _ (.bool _))
 case neq => exact .ok h _ rfl (.pv _ _ (.bool _))
 case lss => exact .ok h _ rfl (.pv _ _ (.bool _))
 case leq => exact .ok h _ rfl (.pv _ _ (.bool _))
 case gtr => exact .ok h _ rfl (.pv _ _ (.bool _))
 case geq => exact .ok h _ rfl (.pv _ _ (.bool _))
 all_goals simp at h

theorem shiftInt_pure {op : BinOp} {k j : IntKind} {a b : Int} {r : Res} (hs : isShift op = true) (h : shiftInt op k a b = some r) (xT : TypeId) : Pure P φ M w (binOp op xT (.int k a) (.int j b)) r := by
 cases op <;> simp only [isShift, Bool.false_eq_true] at hs <;> simp only [shiftInt] at h <;> simp only [binOp]
 ·exact .okIf h fun hp => ⟨_, by simp only [Op.shift, if_neg (Int.not_lt.mpr hp)]; rfl, .pv _ _ (.int _ _)⟩
 ·exact .okIf h fun hp => ⟨_, by simp only [Op.shift, if_neg (Int.not_lt.mpr hp)]; rfl, .pv _ _ (.int _ _)⟩

theorem binStr_pure {op : BinOp} {a b : List UInt8} {r : Res} (h : binStr op a b = some r) (xT : TypeId) : Pure P φ M w (binOp op xT (.string ⟨a.toArray⟩) (.string ⟨b.toArray⟩)) r := by
 have ea : (ByteArray.mk a.toArray).toList = a := by simp
 have eb : (ByteArray.mk b.toArray).toList = b := by simp
 cases op <;> simp only [binStr] at h <;> simp only [binOp]
 case add =>
  refine .okIf h fun hp => ⟨.string (⟨a.toArray⟩ ++ ⟨b.toArray⟩), ?_, ?_⟩
  ·have : ¬ (((ByteArray.mk a.toArray).size + (ByteArray.mk b.toArray).size : Nat) : Int) > IntKind.i64.max := by
    have h1 : (ByteArray.mk a.toArray).size = a.length := by simp [ByteArray.size]
    have h2 : (ByteArray.mk b.toArray).size = b.length := by simp [ByteArray.size]
    rw [h1, h2]
    have : IntKind.i64.max = 9223372036854775807 := by decide
    omega
   simp only [Op.stringOp, if_neg this]; rfl
  ·have : (ByteArray.mk a.toArray ++ ByteArray.mk b.toArray) = ⟨(a ++ b).toArray⟩ := by
    apply ByteArray.ext; simp
   rw [this]; exact .pv _ _ (.str _)
 case eql => exact .ok h _ rfl (by rw [ea, eb]; exact .pv _ _ (.bool _))
 case neq => exact .ok h _ rfl (by rw [ea, eb]; exact .pv _ _ (.bool _))
 case lss => exact .ok h _ rfl (by rw [ea, eb]; exact .pv _ _ (.bool _))
 case leq => exact .ok h _ rfl (by rw [ea, eb]; exact .pv _ _ (.bool _))
 case gtr => exact .ok h _ rfl (by rw [ea, eb]; exact .pv _ _ (.bool _))
 case geq => exact .ok h _ rfl (by rw [ea, eb]; exact .pv _ _ (.bool _))
 all_goals simp at h

end

theorem Ra.int {φ : Names} {w : World} {M : Blocks} {k : IntKind} {n : Int} {x : Value} (h : Ra φ w M (.pv (.int k n)) x) : x = .int k n := by
 cases h with | pv _ _ h => cases h; rfl
theorem Ra.bool {φ : Names} {w : World} {M : Blocks} {b : Bool} {x : Value} (h : Ra φ w M (.pv (.bool b)) x) : x = .bool b := by
 cases h with | pv _ _ h => cases h; rfl
theorem Ra.str {φ : Names} {w : World} {M : Blocks} {s : List UInt8} {x : Value} (h : Ra φ w M (.pv (.str s)) x) : x = .string ⟨s.toArray⟩ := by
 cases h with | pv _ _ h => cases h; rfl
theorem Ra.rp {φ : Names} {w : World} {M : Blocks} {p : PV} {x : Value} (h : Ra φ w M (.pv p) x) : Rp w M p x := by
 cases h with | pv _ _ h => exact h

section
variable {P : Program} {φ : Names} {M : Blocks} {w : World} {T : Tab}

theorem run_equalIn_bool {t : TypeId} {i : TypeInfo} {ti : TI} (s : TIs P t ti .bool i) (d : Nat) (a b : Bool) : (Op.equalIn (d + 1) t (.bool a) (.bool b)).run P w = .ok (a == b) w := by
 simp [Op.equalIn, s.run_und]
theorem run_equal_bool {t : TypeId} {i : TypeInfo} {ti : TI} (s : TIs P t ti .bool i) (a b : Bool) : (Op.equal t (.bool a) (.bool b)).run P w = .ok (a == b) w := run_equalIn_bool s 9999 a b

theorem TIs.desc_slice {t : TypeId} {d : TypeDesc} {i : TypeInfo} {E : TypeId} {a b c} (s : TIs P t ⟨.slice E, a, b, c⟩ d i) : d = .slice E := by
 have := s.kind; cases d <;> simp_all [TK.is]
theorem TIs.desc_int {t : TypeId} {d : TypeDesc} {i : TypeInfo} {k : IntKind} {a b c} (s : TIs P t ⟨.int k, a, b, c⟩ d i) : d = .int k := by
 have := s.kind; cases d <;> simp_all [TK.is]
theorem TIs.desc_str {t : TypeId} {d : TypeDesc} {i : TypeInfo} {a b c} (s : TIs P t ⟨.str, a, b, c⟩ d i) : d = .string := by
 have := s.kind; cases d <;> simp_all [TK.is]
theorem TIs.desc_arr {t : TypeId} {d : TypeDesc} {i : TypeInfo} {n E : Nat} {a b c} (s : TIs P t ⟨.arr n E, a, b, c⟩ d i) : d = .array n E := by
 have := s.kind; cases d <;> simp_all [TK.is]
theorem TIs.desc_struct {t : TypeId} {d : TypeDesc} {i : TypeInfo} {fs : List (Nat × TypeId)} {a b c} (s : TIs P t ⟨.struct fs, a, b, c⟩ d i) :
  ∃ gs : Array Field, d = .struct gs ∧ fs = gs.toList.map fun g => (g.offset, g.type) := by
 have := s.kind; cases d <;> simp_all [TK.is]

theorem part_reads {t : TypeId} {ti : TI} {d : TypeDesc} {i : TypeInfo} (s : TIs P t ti d i) (h1 : ti.kind.agg = false → ti.size = 1) (cs : Array Value) (f : Nat → AV) (o : Nat) (hle : o + ti.size ≤ cs.size)
  (hone : ∀ j, j < cs.size → (cs.getD j undef).oneCell' = true) (hr : ∀ j, j < cs.size → Ra φ w M (f j) (cs.getD j undef)) :
  ∃ x, (part t cs o).run P w = .ok x w ∧ Ra φ w M (valueOf ti fun j => f (o + j)) x := by
 unfold part valueOf
 simp only [Sem.run_bind, s.run_isAgg]
 cases hk : ti.kind.agg with
 | true =>
   simp only [Result.andThen_ok, if_true, Sem.run_bind, s.run_sizeOf, Sem.run_pure, cond_true]
   have hg : ∀ j, j < ti.size → (cs.extract o (o + ti.size)).getD j undef = cs.getD (o + j) undef := by
    intro j hj
    rw [Array.getD_eq_getD_getElem?, Array.getD_eq_getD_getElem?, Array.getElem?_extract, if_pos (by omega)]
   refine ⟨_, rfl, .agg _ _ _ (by simp; omega) (fun j hj => ?_) (fun j hj => ?_)⟩
   ·rw [hg j hj]; exact hone _ (by omega)
   ·rw [hg j hj]; exact hr _ (by omega)
 | false =>
   have hsz := h1 hk
   have hlt : o < cs.size := by omega
   simp only [Result.andThen_ok, Bool.false_eq_true, if_false, Array.getElem?_eq_getElem hlt, Sem.run_pure, cond_false]
   refine ⟨_, rfl, ?_⟩
   have := hr o hlt
   simpa [Array.getD, hlt] using this


theorem TIs.eqs_struct {t : TypeId} {ti : TI} {d : TypeDesc} {i : TypeInfo} {gs : Array Field} (s : TIs P t ti d i) (hd : d = .struct gs) :
  (∀ f ∈ gs.toList, f.name ≠ "_") ∧ P.stoodInHeld t = false ∧ 8 ≤ P.depth := by
 have h := s.eqs
 unfold eqOk at h
 rw [s.und, hd] at h
 simp only [Bool.and_eq_true, List.all_eq_true, bne_iff_ne, ne_eq, Bool.not_eq_true'] at h
 exact ⟨h.1.1, h.1.2, Nat.le_of_ble_eq_true h.2⟩

theorem eqFs_run {e : TypeId → AV → AV → Option Bool} {dd : Nat} (he : ∀ t x y b vx vy, e t x y = some b → Ra φ w M x vx → Ra φ w M y vy → (Op.equalIn dd t vx vy).run P w = .ok b w) (hT : T.ok P = true) {n : Nat} {f g : Nat → AV} {cs ds : Array Value}
  (h1 : cs.size = n) (h2 : ds.size = n) (k1 : ∀ j, j < n → (cs.getD j undef).oneCell' = true) (k2 : ∀ j, j < n → (ds.getD j undef).oneCell' = true) (r1 : ∀ j, j < n → Ra φ w M (f j) (cs.getD j undef)) (r2 : ∀ j, j < n → Ra φ w M (g j) (ds.getD j undef)) :
  ∀ (gs : List Field) (b : Bool), (∀ f ∈ gs, f.name ≠ "_") → eqFs T e n f g (gs.map fun q => (q.offset, q.type)) = some b → (Op.eqFields dd cs ds gs).run P w = .ok b w := by
 intro gs
 induction gs with
 | nil =>
   intro b _ h
   simp only [List.map_nil, eqFs, Option.some.injEq] at h
   subst h
   simp [Op.eqFields]
 | cons q gs ih =>
   intro b hn h
   simp only [List.map_cons, eqFs] at h
   split at h
   ·rename_i fi hfi
    obtain ⟨d2, i2, s2⟩ := Tab.info hT hfi
    cases hb : (Nat.ble (q.offset + fi.size) n && (fi.kind.agg || Nat.beq fi.size 1)) with
    | false => rw [hb] at h; simp at h
    | true =>
      rw [hb] at h
      simp only [Bool.and_eq_true, Bool.or_eq_true] at hb
      have hle := Nat.le_of_ble_eq_true hb.1
      have hs1 : fi.kind.agg = false → fi.size = 1 := fun hk => by
       rcases hb.2 with h | h
       ·rw [hk] at h; simp at h
       ·exact Nat.eq_of_beq_eq_true h
      obtain ⟨x, hx, hxr⟩ := part_reads (φ := φ) (M := M) (w := w) s2 hs1 cs f q.offset (by omega) (fun j hj => k1 j (by omega)) (fun j hj => r1 j (by omega))
      obtain ⟨y, hy, hyr⟩ := part_reads (φ := φ) (M := M) (w := w) s2 hs1 ds g q.offset (by omega) (fun j hj => k2 j (by omega)) (fun j hj => r2 j (by omega))
      simp only [cond_true] at h
      split at h
      ·rename_i a b' ha hb'
       obtain rfl := Option.some.inj h
       have hq := hn q (List.mem_cons_self ..)
       have := he _ _ _ _ _ _ ha hxr hyr
       simp only [Op.eqFields, hq, ne_eq, not_false_eq_true, if_true, Sem.run_bind, hx, hy, this, Result.andThen_ok]
       cases a with
       | false => simp
       | true => simpa using ih b' (fun f hf => hn f (List.mem_cons_of_mem _ hf)) hb'
      ·simp at h
   ·simp at h

theorem eqAt_run (hT : T.ok P = true) : ∀ (k dd : Nat) (t : TypeId) (x y : AV) (b : Bool) (vx vy : Value), k ≤ dd → eqAt T k t x y = some b → Ra φ w M x vx → Ra φ w M y vy → (Op.equalIn dd t vx vy).run P w = .ok b w := by
 intro k
 induction k with
 | zero => intro dd t x y b vx vy _ h; simp [eqAt] at h
 | succ k ih =>
   intro dd t x y b vx vy hk h hx hy
   obtain ⟨dd, rfl⟩ : ∃ m, dd = m + 1 := ⟨dd - 1, by omega⟩
   simp only [eqAt] at h
   split at h
   ·rename_i ti hti
    obtain ⟨d, i, s⟩ := Tab.info hT hti
    obtain ⟨tk, sz, by', zr⟩ := ti
    simp only at h
    split at h
    ·rename_i _ k' a j c
     obtain rfl := s.desc_int
     cases hkj : k' == j with
     | false => rw [hkj] at h; simp at h
     | true =>
       rw [hkj] at h
       obtain rfl := Option.some.inj h
       obtain rfl := hx.int
       obtain rfl := hy.int
       have : k' = j := by simpa using hkj
       simp [Op.equalIn, s.run_und, this]
    ·have hd : d = .bool := by have := s.kind; cases d <;> simp_all [TK.is]
     subst hd
     obtain rfl := Option.some.inj h
     obtain rfl := hx.bool
     obtain rfl := hy.bool
     simp [Op.equalIn, s.run_und]
    ·rename_i a c
     obtain rfl := s.desc_str
     obtain rfl := Option.some.inj h
     obtain rfl := hx.str
     obtain rfl := hy.str
     have ea : (ByteArray.mk a.toArray).toList = a := by simp
     have ec : (ByteArray.mk c.toArray).toList = c := by simp
     simp [Op.equalIn, s.run_und, beq_toListBytes, ea, ec]
    ·rename_i fs n f m g
     obtain ⟨gs, rfl, hfs⟩ := s.desc_struct
     cases hnm : Nat.beq n m with
     | false => rw [hnm] at h; simp at h
     | true =>
       rw [hnm] at h
       obtain rfl := Nat.eq_of_beq_eq_true hnm
       obtain ⟨e1, e2, _⟩ := s.eqs_struct rfl
       cases hx with | agg _ _ cs c1 c2 c3 =>
       cases hy with | agg _ _ ds d1 d2 d3 =>
       have hf : P.fieldsOf t = gs := by simp [Program.fieldsOf, s.und]
       rw [run_equalIn_struct w dd t cs ds (by rw [hf]; exact s.und) e2, hf]
       rw [hfs] at h
       exact eqFs_run (dd := dd) (fun t x y b vx vy h hx hy => ih dd t x y b vx vy (by omega) h hx hy) hT c1 d1 c2 d2 c3 d3 gs.toList b e1 h
    ·simp at h
   ·simp at h

theorem eqAt_guard (hT : T.ok P = true) : ∀ (k dd : Nat) (t : TypeId) (x y : AV) (b : Bool), k ≤ dd → eqAt T k t x y = some b → P.eqGuardType dd t = false := by
 intro k
 induction k with
 | zero => intro dd t x y b _ h; simp [eqAt] at h
 | succ k ih =>
   intro dd t x y b hk h
   obtain ⟨dd, rfl⟩ : ∃ m, dd = m + 1 := ⟨dd - 1, by omega⟩
   simp only [eqAt] at h
   split at h
   ·rename_i ti hti
    obtain ⟨d, i, s⟩ := Tab.info hT hti
    obtain ⟨tk, sz, by', zr⟩ := ti
    simp only at h
    split at h
    ·obtain rfl := s.desc_int
     simp [Program.eqGuardType, s.und]
    ·have hd : d = .bool := by have := s.kind; cases d <;> simp_all [TK.is]
     subst hd
     simp [Program.eqGuardType, s.und]
    ·obtain rfl := s.desc_str
     simp [Program.eqGuardType, s.und]
    ·rename_i fs n f m g
     obtain ⟨gs, rfl, hfs⟩ := s.desc_struct
     cases hnm : Nat.beq n m with
     | false => rw [hnm] at h; simp at h
     | true =>
       rw [hnm, hfs] at h
       simp only [cond_true] at h
       have hall : ∀ q ∈ gs.toList, P.eqGuardType dd q.type = false := by
        clear hfs hnm hti s
        revert b
        generalize gs.toList = l
        intro b
        induction l generalizing b with
        | nil => intro _ q hq; cases hq
        | cons q0 l ihl =>
          intro h q hq
          simp only [List.map_cons, eqFs] at h
          split at h
          ·rename_i fi _
           cases hb : (Nat.ble (q0.offset + fi.size) n && (fi.kind.agg || Nat.beq fi.size 1)) with
           | false => rw [hb] at h; simp at h
           | true =>
             rw [hb] at h
             simp only [cond_true] at h
             split at h
             ·rename_i a c ha hc
              rcases List.mem_cons.mp hq with rfl | hq
              ·exact ih dd _ _ _ _ (by omega) ha
              ·exact ihl c hc q hq
             ·simp at h
          ·simp at h
       simp only [Program.eqGuardType, s.und]
       rw [← Array.any_toList, List.any_eq_false]
       intro q hq
       simp [hall q hq]
    ·simp at h
   ·simp at h

theorem opBin_pure (hT : T.ok P = true) {op : BinOp} {xT : TypeId} {x y : AV} {vx vy : Value} {r : Res} (h : opBin T op xT x y = some r) (hx : Ra φ w M x vx) (hy : Ra φ w M y vy) :
  Pure P φ M w (binOp op xT vx vy) r := by
 unfold opBin at h
 split at h
 ·rename_i k a j b
  obtain rfl := hx.int
  obtain rfl := hy.int
  cases hs : isShift op with
  | true => rw [hs] at h; exact shiftInt_pure hs h xT
  | false =>
    rw [hs] at h
    cases hk : k == j with
    | true =>
      rw [hk] at h
      have : k = j := by simpa using hk
      subst this
      exact binInt_pure h xT
    | false => rw [hk] at h; simp at h
 ·rename_i a b
  obtain rfl := hx.str
  obtain rfl := hy.str
  exact binStr_pure h xT
 ·rename_i a b
  obtain rfl := hx.bool
  obtain rfl := hy.bool
  split at h
  ·rename_i hg
   obtain ⟨d, i, s⟩ := Tab.info hT hg
   have hd : d = .bool := by have := s.kind; cases d <;> simp_all [TK.is]
   subst hd
   refine .ok h (.bool (a == b)) ?_ (.pv _ _ (.bool _))
   simp [binOp, run_equal_bool s]
  ·rename_i hg
   obtain ⟨d, i, s⟩ := Tab.info hT hg
   have hd : d = .bool := by have := s.kind; cases d <;> simp_all [TK.is]
   subst hd
   refine .ok h (.bool (!(a == b))) ?_ (.pv _ _ (.bool _))
   simp [binOp, run_equal_bool s]
  ·simp at h
 ·rename_i n f m g
  cases hx with | agg _ _ cs c1 c2 c3 =>
  cases hy with | agg _ _ ds d1 d2 d3 =>
  split at h
  ·rename_i b hb
   have := eqAt_run (w := w) (M := M) (φ := φ) hT 8 10000 xT _ _ b _ _ (by omega) hb (.agg _ _ cs c1 c2 c3) (.agg _ _ ds d1 d2 d3)
   refine .ok h (.bool b) ?_ (.pv _ _ (.bool _))
   rw [run_eql_struct, this]; rfl
  ·rename_i b hb
   have := eqAt_run (w := w) (M := M) (φ := φ) hT 8 10000 xT _ _ b _ _ (by omega) hb (.agg _ _ cs c1 c2 c3) (.agg _ _ ds d1 d2 d3)
   refine .ok h (.bool (!b)) ?_ (.pv _ _ (.bool _))
   rw [run_neq_struct, this]; rfl
  ·simp at h
 ·simp at h

theorem opBin_guard (hT : T.ok P = true) {op : BinOp} {xT : TypeId} {x y : AV} {vx vy : Value} {r : Res} (h : opBin T op xT x y = some r) (hx : Ra φ w M x vx) (hy : Ra φ w M y vy) (ox oy : Operand) :
  (eqGuard op xT ox oy vx vy).run P w = .ok () w := by
 have : (∃ k a, vx = .int k a) ∨ (∃ s, vx = .string s) ∨ (∃ b, vx = .bool b) ∨ (∃ cs ds, vx = .agg cs ∧ vy = .agg ds ∧ P.eqGuardType P.depth xT = false) := by
  unfold opBin at h
  split at h
  ·exact .inl ⟨_, _, hx.int⟩
  ·exact .inr (.inl ⟨_, hx.str⟩)
  ·exact .inr (.inr (.inl ⟨_, hx.bool⟩))
  ·rename_i n f m g
   cases hx with | agg _ _ cs c1 c2 c3 =>
   cases hy with | agg _ _ ds d1 d2 d3 =>
   refine .inr (.inr (.inr ⟨cs, ds, rfl, rfl, ?_⟩))
   have key : ∀ b, eqAt T 8 xT (.agg n f) (.agg m g) = some b → P.eqGuardType P.depth xT = false := fun b hb => by
    have hdep : 8 ≤ P.depth := by
     have hb' := hb
     simp only [eqAt] at hb'
     split at hb'
     ·rename_i ti hti
      obtain ⟨d, i, s⟩ := Tab.info hT hti
      obtain ⟨tk, sz, by', zr⟩ := ti
      simp only at hb'
      split at hb'
      ·rename_i h0; cases h0
      ·rename_i h0; cases h0
      ·rename_i h0; cases h0
      ·obtain ⟨gs, rfl, _⟩ := s.desc_struct
       exact (s.eqs_struct rfl).2.2
      ·simp at hb'
     ·simp at hb'
    exact eqAt_guard hT 8 P.depth xT _ _ b hdep hb
   split at h
   ·rename_i b hb; exact key b hb
   ·rename_i b hb; exact key b hb
   ·simp at h
  ·simp at h
 rcases this with ⟨k, a, rfl⟩ | ⟨s, rfl⟩ | ⟨b, rfl⟩ | ⟨cs, ds, rfl, rfl, hg⟩
 ·unfold eqGuard; split <;> simp
 ·unfold eqGuard; split <;> simp
 ·unfold eqGuard; split <;> simp
 ·exact run_eqGuard_agg w _ _ _ _ _ _ hg

theorem opConvert_pure (hT : T.ok P = true) {src dst : TypeId} {x : AV} {vx : Value} {r : Res} (h : opConvert T src dst x = some r) (hx : Ra φ w M x vx) :
  Pure P φ M w (convert src dst vx) r := by
 unfold opConvert at h
 split at h
 ·rename_i hs hd
  obtain ⟨d1, i1, s1⟩ := Tab.info hT hs
  obtain ⟨d2, i2, s2⟩ := Tab.info hT hd
  obtain rfl := s2.desc_int
  obtain rfl := hx.int
  refine .ok h _ ?_ (.pv _ _ (.int _ _))
  simp only [convert, Sem.run_bind, s1.run_und, s2.run_und]
  cases d1 <;> rfl
 ·rename_i hs hd
  obtain ⟨d1, i1, s1⟩ := Tab.info hT hs
  obtain ⟨d2, i2, s2⟩ := Tab.info hT hd
  obtain rfl := s2.desc_str
  obtain rfl := hx.str
  refine .ok h _ ?_ (.pv _ _ (.str _))
  simp only [convert, Sem.run_bind, s1.run_und, s2.run_und]
  cases d1 <;> rfl
 ·simp at h
end

theorem World.cell?_at {w : World} {b : Nat} {arr : Array Value} {E : TypeId} {fz : Nat × Nat} (h : w.heap[b]? = some (.cells arr E fz)) (o : Nat) : w.cell? ⟨b, o, none⟩ = arr[o]? := by
 simp [World.cell?, h]

theorem loadVar_reads {P : Program} {φ : Names} {M : Blocks} {w : World} {t : TypeId} {ti : TI} {d : TypeDesc} {i : TypeInfo} (s : TIs P t ti d i) (h1 : ti.kind.agg = false → ti.size = 1)
  (b o : Nat) (f : Nat → AV) (g : Nat → Value) (hc : ∀ j, j < ti.size → w.cell? ⟨b, o + j, none⟩ = some (g j)) (h1c : ∀ j, j < ti.size → (g j).oneCell' = true)
  (hr : ∀ j, j < ti.size → Ra φ w M (f j) (g j)) : ∃ x, (loadVar t ⟨b, o, none⟩).run P w = .ok x w ∧ Ra φ w M (valueOf ti f) x := by
 have hadd : ∀ j, (⟨b, o, none⟩ : Addr).add j = ⟨b, o + j, none⟩ := by
  intro j; unfold Addr.add; split
  ·subst_vars; rfl
  ·rfl
 unfold loadVar valueOf
 simp only [Sem.run_bind, s.run_isAgg]
 cases hk : ti.kind.agg with
 | true =>
   simp only [Result.andThen_ok, if_true, Sem.run_bind, s.run_sizeOf, cond_true]
   rw [run_loadCells (a := ⟨b, o, none⟩) (n := ti.size) (f := g) (h := fun j hj => by rw [hadd]; exact hc j hj)]
   refine ⟨_, rfl, .agg _ _ _ (by simp) (fun j hj => ?_) (fun j hj => ?_)⟩
   ·simpa [hj] using h1c j hj
   ·simpa [hj] using hr j hj
 | false =>
   have hsz := h1 hk
   refine ⟨g 0, ?_, hr 0 (by omega)⟩
   have := hc 0 (by omega)
   simp only [Nat.add_zero] at this
   simp [this]

section
variable {P : Program} {φ : Names} {M : Blocks} {w : World} {T : Tab}

theorem opLoad_pure (hT : T.ok P = true) {H : Heap} (hH : HR φ M w H) {t : TypeId} {x : AV} {vx : Value} {r : Res} (h : opLoad T t x H = some r) (hx : Ra φ w M x vx) :
  Pure P φ M w (Instr.loadAt t vx) r := by
 unfold opLoad at h
 split at h
 ·simp at h
 ·rename_i ti hti
  obtain ⟨d, i, s⟩ := Tab.info hT hti
  have h1 : ti.kind.agg = false → ti.size = 1 := by
   intro hk
   rw [hk] at h
   cases hs : Nat.beq ti.size 1 with
   | true => exact Nat.eq_of_beq_eq_true hs
   | false => rw [hs] at h; simp at h
  cases hb : (!ti.kind.agg && !Nat.beq ti.size 1) with
  | true => rw [hb] at h; simp at h
  | false =>
    rw [hb] at h
    simp only [cond_false] at h
    split at h
    ·rename_i n f
     cases hx with | rptr n f b o g hM hc h1c hr =>
     refine .okIf h fun hp => ?_
     simp only [Instr.loadAt, Instr.sureAddr, Sem.run_bind, Sem.run_pure]
     exact loadVar_reads s h1 b o _ g (fun j hj => hc j (by omega)) (fun j hj => h1c j (by omega)) (fun j hj => .pv _ _ (hr j (by omega)))
    ·rename_i id gen sz k off
     split at h
     ·rename_i o ho
      cases hx with | ptr _ _ _ _ _ b hb =>
      refine .okIf h fun ⟨hg, hsz, hk, hof⟩ => ?_
      subst hg; subst hsz
      obtain ⟨b', arr, fz, hφ, hblk, hfz, hlen, hnm, hone, hra⟩ := (hH.own id o ho).resolve_left (fun h => by omega)
      rw [hφ] at hb
      obtain rfl := Option.some.inj hb
      simp only [Instr.loadAt, Instr.sureAddr, Sem.run_bind, Sem.run_pure]
      have hin : ∀ j, j < ti.size → k * o.sz + off + j < arr.size := by
       intro j hj
       have : (k + 1) * o.sz ≤ o.n * o.sz := Nat.mul_le_mul_right _ hk
       rw [Nat.succ_mul] at this
       omega
      refine loadVar_reads s h1 b' (k * o.sz + off) (fun j => o.f k (off + j)) (fun j => arr.getD (k * o.sz + (off + j)) undef) (fun j hj => ?_) (fun j hj => hone k (off + j) hk (by omega)) (fun j hj => hra k (off + j) hk (by omega))
      rw [World.cell?_at hblk]
      have := hin j hj
      rw [Array.getElem?_eq_getElem this]
      simp [Array.getD, show k * o.sz + (off + j) < arr.size by omega, Nat.add_assoc]
     ·simp at h
    ·simp at h

theorem opFieldAddr_pure (hT : T.ok P = true) {s : TypeId} {x : AV} {vx : Value} {k : Nat} {r : Res} (h : opFieldAddr T s x k = some r) (hx : Ra φ w M x vx) :
  Pure P φ M w (Instr.fieldAt s vx k) r := by
 unfold opFieldAddr at h
 split at h
 ·rename_i fs _ _ _ hti
  obtain ⟨d, i, st⟩ := Tab.info hT hti
  obtain ⟨gs, rfl, hfs⟩ := st.desc_struct
  split at h
  ·rename_i o ft hk
   have hg : ∃ g : Field, gs[k]? = some g ∧ g.offset = o ∧ g.type = ft := by
    rw [hfs] at hk
    simp only [List.getElem?_map, Option.map_eq_some_iff, Prod.mk.injEq] at hk
    obtain ⟨g, hg, h1, h2⟩ := hk
    exact ⟨g, by simpa using hg, h1, h2⟩
   obtain ⟨g, hg, rfl, rfl⟩ := hg
   split at h
   ·rename_i fi hfi
    obtain ⟨d2, i2, s2⟩ := Tab.info hT hfi
    cases hz : Nat.beq fi.size 0 with
    | true => rw [hz] at h; simp at h
    | false =>
      rw [hz] at h
      simp only [cond_false] at h
      have hz' : ¬ fi.size = 0 := fun e => by rw [e] at hz; simp at hz
      have hadd : ∀ (b o j : Nat), (⟨b, o, none⟩ : Addr).add j = ⟨b, o + j, none⟩ := by
       intro b o j; unfold Addr.add; split
       ·subst_vars; rfl
       ·rfl
      have hrun : ∀ b o, (Instr.fieldAt s (.pointer (some ⟨b, o, none⟩)) k).run P w = .ok (.pointer (some ⟨b, o + g.offset, none⟩)) w := by
       intro b o
       simp [Instr.fieldAt, Instr.sureAddr, fieldPlace, st.run_und, s2.run_sizeOf, hg, hz', hadd]
      split at h
      ·cases hx with | ptr _ _ sz i0 off b hb =>
       exact .ok h _ (hrun _ _) (by rw [Nat.add_assoc]; exact .ptr _ _ _ _ _ _ hb)
      ·cases hx with | rptr n f b o gg hM hc h1c hr =>
       exact .okIf h fun hle => ⟨_, hrun _ _, .rptr _ _ b _ (fun j => gg (g.offset + j)) hM (fun j hj => by rw [Nat.add_assoc]; exact hc _ (by omega)) (fun j hj => h1c _ (by omega)) (fun j hj => hr _ (by omega))⟩
      ·simp at h
   ·simp at h
  ·simp at h
 ·simp at h

end

section
variable {P : Program} {φ : Names} {M : Blocks} {w : World} {T : Tab}

theorem opField_pure (hT : T.ok P = true) {s : TypeId} {x : AV} {vx : Value} {k : Nat} {r : Res} (h : opField T s x k = some r) (hx : Ra φ w M x vx) :
  Pure P φ M w (Instr.field s vx k) r := by
 unfold opField at h
 split at h
 ·rename_i fs _ _ _ n f hti
  obtain ⟨d, i, st⟩ := Tab.info hT hti
  obtain ⟨gs, rfl, hfs⟩ := st.desc_struct
  split at h
  ·rename_i o ft hk
   have hg : ∃ g : Field, gs[k]? = some g ∧ g.offset = o ∧ g.type = ft := by
    rw [hfs] at hk
    simp only [List.getElem?_map, Option.map_eq_some_iff, Prod.mk.injEq] at hk
    obtain ⟨g, hg, h1, h2⟩ := hk
    exact ⟨g, by simpa using hg, h1, h2⟩
   obtain ⟨g, hg, rfl, rfl⟩ := hg
   split at h
   ·rename_i fi hfi
    obtain ⟨d2, i2, s2⟩ := Tab.info hT hfi
    cases hb : (Nat.ble (g.offset + fi.size) n && (fi.kind.agg || Nat.beq fi.size 1)) with
    | false => rw [hb] at h; simp at h
    | true =>
      rw [hb] at h
      simp only [Bool.and_eq_true, Bool.or_eq_true] at hb
      have hle := Nat.le_of_ble_eq_true hb.1
      have h1 : fi.kind.agg = false → fi.size = 1 := fun hk => by
       rcases hb.2 with h | h
       ·rw [hk] at h; simp at h
       ·exact Nat.eq_of_beq_eq_true h
      cases hx with | agg _ _ cs hn hone hr =>
      obtain ⟨x, hx, hxr⟩ := part_reads (φ := φ) (M := M) (w := w) s2 h1 cs f g.offset (by omega) (fun j hj => hone j (by omega)) (fun j hj => hr j (by omega))
      refine .ok h x ?_ hxr
      simp [Instr.field, st.run_und, hg, asAgg, hx]
   ·simp at h
  ·simp at h
 ·simp at h

theorem addr_add (b o j : Nat) : (⟨b, o, none⟩ : Addr).add j = ⟨b, o + j, none⟩ := by
 unfold Addr.add; split
 ·subst_vars; rfl
 ·rfl

theorem opIndexAddr_pure (hT : T.ok P = true) {t : TypeId} {x ix : AV} {vx vi : Value} {r : Res} (h : opIndexAddr T t x ix = some r) (hx : Ra φ w M x vx) (hi : Ra φ w M ix vi) :
  Pure P φ M w (Instr.indexAt t vx vi) r := by
 unfold opIndexAddr at h
 split at h
 ·rename_i E _ _ _ kk i hti
  obtain ⟨d, ii, st⟩ := Tab.info hT hti
  obtain rfl := st.desc_slice
  obtain rfl := hi.int
  split at h
  ·rename_i ei hei
   obtain ⟨d2, i2, s2⟩ := Tab.info hT hei
   split at h
   ·rename_i E' sz n f
    refine .okIf h fun ⟨h0, hn, hsz⟩ => ?_
    have hrp := hx.rp
    cases hrp with
    | seq0 => omega
    | seq _ _ _ _ b o c g hM hnc hc h1c hr =>
      have hin : 0 ≤ i ∧ i < (n : Int) := ⟨h0, hn⟩
      refine ⟨.pointer (some ⟨b, o + i.toNat * sz, none⟩), ?_, .rptr _ _ b _ (fun j => g i.toNat j) hM (fun j hj => ?_) (fun j hj => h1c _ _ (by omega) hj) (fun j hj => hr _ _ (by omega) hj)⟩
      ·simp [Instr.indexAt, asIntOf, st.run_und, hin, s2.run_sizeOf, hsz, addr_add]
      ·exact hc _ _ (by omega) hj
   ·rename_i id gen sz off len
    refine .okIf h fun ⟨h0, hn, hsz⟩ => ?_
    cases hx with
    | row0 => omega
    | row _ _ _ _ _ b c hφ hlc hbs =>
      have hin : 0 ≤ i ∧ i < (len : Int) := ⟨h0, hn⟩
      refine ⟨.pointer (some ⟨b, off * sz + i.toNat * sz, none⟩), ?_, ?_⟩
      ·simp [Instr.indexAt, asIntOf, st.run_und, hin, s2.run_sizeOf, hsz, addr_add]
      ·rw [← Nat.add_mul]; exact .ptr id gen sz (off + i.toNat) 0 b hφ
   ·simp at h
  ·simp at h
 ·rename_i n E _ _ _ kk i hti
  obtain ⟨d, ii, st⟩ := Tab.info hT hti
  obtain rfl := st.desc_arr
  obtain rfl := hi.int
  split at h
  ·rename_i ei hei
   obtain ⟨d2, i2, s2⟩ := Tab.info hT hei
   split at h
   ·rename_i id gen sz i0 off
    refine .okIf h fun ⟨h0, hn, h1n⟩ => ?_
    cases hx with
    | ptr _ _ _ _ _ b hφ =>
      have hin : 0 ≤ i ∧ i < (n : Int) := ⟨h0, hn⟩
      refine ⟨.pointer (some ⟨b, i0 * sz + off + i.toNat * ei.size, none⟩), ?_, ?_⟩
      ·simp [Instr.indexAt, asIntOf, st.run_und, Instr.sureAddr, hin, s2.run_sizeOf, addr_add]
      ·rw [Nat.add_assoc]; exact .ptr id gen sz i0 _ b hφ
   ·rename_i m f
    refine .okIf h fun ⟨h0, hn, h1n, hm⟩ => ?_
    cases hx with
    | rptr _ _ b o g hM hc h1c hr =>
      have hin : 0 ≤ i ∧ i < (n : Int) := ⟨h0, hn⟩
      refine ⟨.pointer (some ⟨b, o + i.toNat * ei.size, none⟩), ?_, .rptr _ _ b _ (fun j => g (i.toNat * ei.size + j)) hM (fun j hj => ?_) (fun j hj => h1c _ (by omega)) (fun j hj => hr _ (by omega))⟩
      ·simp [Instr.indexAt, asIntOf, st.run_und, Instr.sureAddr, hin, s2.run_sizeOf, addr_add]
      ·rw [Nat.add_assoc]; exact hc _ (by omega)
   ·simp at h
  ·simp at h
 ·simp at h

theorem opIndex_pure (hT : T.ok P = true) {t : TypeId} {x ix : AV} {vx vi : Value} {r : Res} (h : opIndex T t x ix = some r) (hx : Ra φ w M x vx) (hi : Ra φ w M ix vi) :
  Pure P φ M w (Instr.index t vx vi) r := by
 unfold opIndex at h
 split at h
 ·rename_i s _ i hti
  obtain ⟨d, ii, st⟩ := Tab.info hT hti
  obtain rfl := st.desc_str
  obtain rfl := hi.int
  obtain rfl := hx.str
  refine .okIf h fun ⟨h0, hn⟩ => ⟨_, ?_, .pv _ _ (.int _ _)⟩
  have hlt : i.toNat < s.length := by omega
  have hb : (⟨s.toArray⟩ : ByteArray)[i.toNat]? = some (s.getD i.toNat 0) := by
   rw [getElem?_pos (⟨s.toArray⟩ : ByteArray) i.toNat (by simpa [ByteArray.size] using hlt)]
   congr 1
   show s.toArray[i.toNat] = _
   simp [List.getD_eq_getElem?_getD, hlt]
  simp [Instr.index, asIntOf, st.run_und, h0, hb]
 ·rename_i n E _ _ _ m f _ i hti
  obtain ⟨d, ii, st⟩ := Tab.info hT hti
  obtain rfl := st.desc_arr
  obtain rfl := hi.int
  split at h
  ·rename_i ei hei
   obtain ⟨d2, i2, s2⟩ := Tab.info hT hei
   refine .okIf h fun ⟨h0, hn, hm, h1⟩ => ?_
   cases hx with | agg _ _ cs hcs hone hr =>
   have hin : 0 ≤ i ∧ i < (n : Int) := ⟨h0, hn⟩
   obtain ⟨x, hx, hxr⟩ := part_reads (φ := φ) (M := M) (w := w) s2 h1 cs f (i.toNat * ei.size) (by omega) (fun j hj => hone j (by omega)) (fun j hj => hr j (by omega))
   exact ⟨x, by simp [Instr.index, asIntOf, st.run_und, hin, s2.run_sizeOf, hx], hxr⟩
  ·simp at h
 ·simp at h

theorem opUn_pure {op : UnOp} {x : AV} {vx : Value} {r : Res} (h : opUn op x = some r) (hx : Ra φ w M x vx) : Pure P φ M w (Op.unary op vx) r := by
 unfold opUn at h
 split at h
 ·obtain rfl := hx.bool; exact .ok h _ rfl (.pv _ _ (.bool _))
 ·rename_i k n
  obtain rfl := hx.int
  exact (intArith_pure (op := .sub) (x := 0) (y := n) h rfl : Pure P φ M w (Op.intArith .sub k 0 n) r)
 ·obtain rfl := hx.int; exact .ok h _ rfl (.pv _ _ (.int _ _))
 ·simp at h

theorem opExtract_pure {x : AV} {vx : Value} {i : Nat} {r : Res} (h : opExtract x i = some r) (hx : Ra φ w M x vx) : Pure P φ M w (Instr.extract vx i) r := by
 unfold opExtract at h
 split at h
 ·rename_i n f
  cases hb : Nat.ble (i + 1) n with
  | false => rw [hb] at h; simp at h
  | true =>
    rw [hb] at h
    have hlt := Nat.le_of_ble_eq_true hb
    cases hx with | tup _ _ vs hn hr =>
    have h1 : i < vs.size := by omega
    refine .ok h (vs.getD i undef) ?_ (hr i (by omega))
    simp [Instr.extract, h1, Array.getD]
 ·simp at h

theorem opLen_pure (hT : T.ok P = true) {t ty : TypeId} {x : AV} {vx : Value} {r : Res} (h : opLen T t x = some r) (hx : Ra φ w M x vx) : Pure P φ M w (Builtin.len_ #[t] ty #[vx]) r := by
 unfold opLen at h
 split at h
 ·rename_i s hti
  obtain ⟨d, ii, st⟩ := Tab.info hT hti
  obtain rfl := st.desc_str
  obtain rfl := hx.str
  refine .ok h _ ?_ (.pv _ _ (.int _ _))
  have hs : (ByteArray.mk s.toArray).size = s.length := by simp [ByteArray.size]
  simp [Builtin.len_, st.run_und, goInt, hs]
 ·rename_i hti
  obtain ⟨d, ii, st⟩ := Tab.info hT hti
  obtain rfl := st.desc_slice
  have hrp := hx.rp
  cases hrp with
  | seq0 => exact .ok h _ (by simp [Builtin.len_, st.run_und, goInt]) (.pv _ _ (.int _ _))
  | seq => exact .ok h _ (by simp [Builtin.len_, st.run_und, goInt]) (.pv _ _ (.int _ _))
 ·rename_i hti
  obtain ⟨d, ii, st⟩ := Tab.info hT hti
  obtain rfl := st.desc_slice
  cases hx with
  | row0 => exact .ok h _ (by simp [Builtin.len_, st.run_und, goInt]) (.pv _ _ (.int _ _))
  | row => exact .ok h _ (by simp [Builtin.len_, st.run_und, goInt]) (.pv _ _ (.int _ _))
 ·rename_i hti
  obtain ⟨d, ii, st⟩ := Tab.info hT hti
  obtain rfl := st.desc_slice
  cases hx with
  | nilS => exact .ok h _ (by simp [Builtin.len_, st.run_und, goInt]) (.pv _ _ (.int _ _))
 ·rename_i hti
  obtain ⟨d, ii, st⟩ := Tab.info hT hti
  obtain rfl := st.desc_arr
  exact .ok h _ (by simp [Builtin.len_, st.run_und, goInt]) (.pv _ _ (.int _ _))
 ·simp at h

theorem opMax_pure {x y : AV} {vx vy : Value} {ts : Array TypeId} {ty : TypeId} {r : Res} (h : opMax x y = some r) (hx : Ra φ w M x vx) (hy : Ra φ w M y vy) : Pure P φ M w (Builtin.max_ ts ty #[vx, vy]) r := by
 unfold opMax at h
 split at h
 ·obtain rfl := hx.int; obtain rfl := hy.int
  refine .ok h _ ?_ (.pv _ _ (.int _ _))
  simp [Builtin.max_, Builtin.max2]
 ·simp at h
theorem opMin_pure {x y : AV} {vx vy : Value} {ts : Array TypeId} {ty : TypeId} {r : Res} (h : opMin x y = some r) (hx : Ra φ w M x vx) (hy : Ra φ w M y vy) : Pure P φ M w (Builtin.min_ ts ty #[vx, vy]) r := by
 unfold opMin at h
 split at h
 ·obtain rfl := hx.int; obtain rfl := hy.int
  refine .ok h _ ?_ (.pv _ _ (.int _ _))
  simp [Builtin.min_, Builtin.min2]
 ·simp at h

theorem opMakeIface_pure (hT : T.ok P = true) {x : AV} {vx : Value} {t : TypeId} {ti : TI} {r : Res} (ht : T.get t = some ti) (hk : ti.kind.is (.interface #[]) = false) (h : opMakeIface x t = some r) (hx : Ra φ w M x vx) :
  Pure P φ M w (Instr.makeInterface t vx) r := by
 obtain ⟨p, rfl, hp⟩ : ∃ p, r = ⟨none, .pv (.ifc t p), .none⟩ ∧ Rp w M p vx := by
  unfold opMakeIface at h
  split at h
  ·exact ⟨_, (Option.some.inj h).symm, hx.rp⟩
  ·rename_i n f
   cases hb : allN (fun i => (f i).isPv) n with
   | false => rw [hb] at h; cases h
   | true =>
     rw [hb] at h
     refine ⟨_, (Option.some.inj h).symm, ?_⟩
     cases hx with | agg _ _ cs h1 h2 h3 =>
     refine .agg _ _ cs h1 h2 fun i hi => ?_
     have hpv := allN_get hb i hi
     have hr := h3 i hi
     generalize f i = v at hpv hr
     cases v <;> simp [AV.isPv] at hpv
     exact hr.rp
  ·simp at h
 have h := rfl (a := some (⟨none, .pv (.ifc t p), .none⟩ : Res))
 ·obtain ⟨d, ii, st⟩ := Tab.info hT ht
  refine .ok h _ ?_ (.pv _ _ (.ifc _ _ _ hp))
  simp only [Instr.makeInterface, Sem.run_bind, st.run_und, Result.andThen_ok]
  split
  ·have := st.kind
   cases hki : ti.kind <;> simp_all [TK.is]
  ·rfl

end

section
variable {P : Program} {φ : Names} {M : Blocks} {w : World} {T : Tab}

theorem run_bound (x : Int) (y : Nat) (k : IntKind) (c : BoundsCode) (h0 : 0 ≤ x) (h : x ≤ y) : (Instr.sliceBound (.int k x) y c).run P w = .ok x.toNat w := by
 simp [Instr.sliceBound, asIntOf, h0, h]

theorem run_bounds_lh (s : Bool) (len cap : Nat) (kl kh : IntKind) (l h : Int) (h0 : 0 ≤ l) (hl : l ≤ h) (hh : h ≤ cap) :
  (Instr.sliceBounds s len cap (some (.int kl l)) (some (.int kh h)) none).run P w = .ok (l.toNat, h.toNat, cap) w := by
 simp only [Instr.sliceBounds, Sem.run_bind, Sem.run_pure, Result.andThen_ok]
 rw [run_bound h cap _ _ (by omega) hh]
 simp only [Result.andThen_ok]
 rw [run_bound l h.toNat _ _ h0 (by omega)]
 rfl
theorem run_bounds_h (s : Bool) (len cap : Nat) (kh : IntKind) (h : Int) (h0 : 0 ≤ h) (hh : h ≤ cap) :
  (Instr.sliceBounds s len cap none (some (.int kh h)) none).run P w = .ok (0, h.toNat, cap) w := by
 simp only [Instr.sliceBounds, Sem.run_bind, Sem.run_pure, Result.andThen_ok]
 rw [run_bound h cap _ _ (by omega) hh]
 rfl
theorem run_bounds_l (s : Bool) (len cap : Nat) (kl : IntKind) (l : Int) (h0 : 0 ≤ l) (hl : l ≤ len) :
  (Instr.sliceBounds s len cap (some (.int kl l)) none none).run P w = .ok (l.toNat, len, cap) w := by
 simp only [Instr.sliceBounds, Sem.run_bind, Sem.run_pure, Result.andThen_ok]
 rw [run_bound l len _ _ h0 hl]
 rfl
theorem run_bounds_lhm (s : Bool) (len cap : Nat) (kl kh km : IntKind) (l h m : Int) (h0 : 0 ≤ l) (hl : l ≤ h) (hh : h ≤ m) (hm : m ≤ cap) :
  (Instr.sliceBounds s len cap (some (.int kl l)) (some (.int kh h)) (some (.int km m))).run P w = .ok (l.toNat, h.toNat, m.toNat) w := by
 simp only [Instr.sliceBounds, Sem.run_bind, Sem.run_pure]
 rw [run_bound m cap _ _ (by omega) hm]
 simp only [Result.andThen_ok]
 rw [run_bound h m.toNat _ _ (by omega) (by omega)]
 simp only [Result.andThen_ok]
 rw [run_bound l h.toNat _ _ h0 (by omega)]
 rfl

theorem bytes_extract (s : List UInt8) (l h : Nat) : (ByteArray.mk s.toArray).extract l h = ⟨((s.take h).drop l).toArray⟩ := by
 apply ByteArray.ext
 simp [List.drop_take]

theorem seq_cut {E sz n : Nat} {f : Nat → Nat → PV} {a : Option Addr} {c : Nat} (hx : Rp w M (.seq E sz n f) (.slice a n c)) (l h m : Nat) (hl : l ≤ h) (hn : h ≤ n) (hm : h ≤ m) :
  Rp w M (.seq E sz (h - l) fun i j => f (l + i) j) (.slice (if m = l then a else a.map (·.add (l * sz))) (h - l) (m - l)) := by
 by_cases h0 : h - l = 0
 ·rw [h0]; exact .seq0 _ _ _ _ _
 ·cases hx with
  | seq0 => omega
  | seq _ _ _ _ b o _ g hM hnc hc h1c hr =>
    rw [if_neg (by omega)]
    simp only [Option.map_some, addr_add]
    refine .seq _ _ _ _ b _ _ (fun i j => g (l + i) j) hM (by omega) (fun i j hi hj => ?_) (fun i j hi hj => h1c _ _ (by omega) hj) (fun i j hi hj => hr _ _ (by omega) hj)
    have := hc (l + i) j (by omega) hj
    rw [Nat.add_mul] at this
    rw [show o + l * sz + i * sz + j = o + (l * sz + i * sz) + j by omega]
    exact this

theorem seq_slice {E sz n : Nat} {f : Nat → Nat → PV} {x : Value} (hx : Rp w M (.seq E sz n f) x) : ∃ a c, x = .slice a n c ∧ (n = 0 ∨ n ≤ c) := by
 cases hx with
 | seq0 _ _ _ a c => exact ⟨a, c, rfl, .inl rfl⟩
 | seq _ _ _ _ b o c _ _ hnc => exact ⟨_, c, rfl, .inr hnc⟩

theorem row_cut {id gen sz off len : Nat} {a : Option Addr} {c : Nat} (hx : Ra φ w M (.row id gen sz off len) (.slice a len c)) (l h m : Nat) (hl : l ≤ h) (hn : h ≤ len) (hm : h ≤ m) (hmc : m ≤ c) :
  Ra φ w M (.row id gen sz (off + l) (h - l)) (.slice (if m = l then a else a.map (·.add (l * sz))) (h - l) (m - l)) := by
 by_cases h0 : m - l = 0
 ·rw [show h - l = 0 by omega, h0]; exact .row0 _ _ _ _ _
 ·cases hx with
  | row0 => omega
  | row _ _ _ _ _ b _ hφ hlc hbs =>
    rw [if_neg (by omega)]
    simp only [Option.map_some, addr_add]
    rw [← Nat.add_mul]
    refine .row _ _ _ _ _ b _ hφ (by omega) ?_
    exact Nat.le_trans (Nat.mul_le_mul_right _ (by omega)) hbs

theorem row_slice {id gen sz off len : Nat} {x : Value} (hx : Ra φ w M (.row id gen sz off len) x) : ∃ a c, x = .slice a len c ∧ len ≤ c := by
 cases hx with
 | row0 => exact ⟨_, 0, rfl, Nat.le_refl _⟩
 | row _ _ _ _ _ b c _ h => exact ⟨_, c, rfl, h⟩

theorem opSlice_pure (hT : T.ok P = true) {t : TypeId} {x : AV} {lo hi : Option AV} {vx : Value} {vl vh : Option Value} {r : Res} (h : opSlice T t x lo hi = some r) (hx : Ra φ w M x vx)
  (hlo : ∀ v, lo = some v → ∃ y, vl = some y ∧ Ra φ w M v y) (hlo0 : lo = none → vl = none) (hhi : ∀ v, hi = some v → ∃ y, vh = some y ∧ Ra φ w M v y) (hhi0 : hi = none → vh = none) :
  Pure P φ M w (Instr.sliceAt t vx vl vh none) r := by
 unfold opSlice at h
 split at h
 ·rename_i hti
  obtain ⟨d, ii, st⟩ := Tab.info hT hti
  obtain rfl := st.desc_str
  have hrun : ∀ s, (Instr.sliceAt t (.string ⟨s⟩) vl vh none).run P w = (Instr.slice t (.string ⟨s⟩) vl vh none).run P w := by
   intro s; simp [Instr.sliceAt, st.run_und]
  split at h
  ·obtain rfl := hx.str
   obtain ⟨_, rfl, hl⟩ := hlo _ rfl
   obtain ⟨_, rfl, hh⟩ := hhi _ rfl
   obtain rfl := hl.int
   obtain rfl := hh.int
   refine .okIf h fun ⟨h0, hlh, hhn⟩ => ⟨_, ?_, .pv _ _ (.str _)⟩
   rw [hrun]
   simp only [Instr.slice, Sem.run_bind, st.run_und, Result.andThen_ok, Option.isSome_none, Bool.false_eq_true, if_false, Sem.run_pure]
   rw [run_bounds_lh false _ _ _ _ _ _ h0 hlh (by simpa [ByteArray.size] using hhn)]
   simp [bytes_extract]
  ·obtain rfl := hx.str
   obtain rfl := hlo0 rfl
   obtain ⟨_, rfl, hh⟩ := hhi _ rfl
   obtain rfl := hh.int
   refine .okIf h fun ⟨h0, hhn⟩ => ⟨_, ?_, .pv _ _ (.str _)⟩
   rw [hrun]
   simp only [Instr.slice, Sem.run_bind, st.run_und, Result.andThen_ok, Option.isSome_none, Bool.false_eq_true, if_false, Sem.run_pure]
   rw [run_bounds_h false _ _ _ _ h0 (by simpa [ByteArray.size] using hhn)]
   simp [bytes_extract]
  ·obtain rfl := hx.str
   obtain ⟨_, rfl, hl⟩ := hlo _ rfl
   obtain rfl := hhi0 rfl
   obtain rfl := hl.int
   refine .okIf h fun ⟨h0, hhn⟩ => ⟨_, ?_, .pv _ _ (.str _)⟩
   rw [hrun]
   simp only [Instr.slice, Sem.run_bind, st.run_und, Result.andThen_ok, Option.isSome_none, Bool.false_eq_true, if_false, Sem.run_pure]
   rw [run_bounds_l false _ _ _ _ h0 (by simpa [ByteArray.size] using hhn)]
   simp [bytes_extract, ByteArray.size]
  ·simp at h
 ·rename_i E _ _ _ hti
  obtain ⟨d, ii, st⟩ := Tab.info hT hti
  obtain rfl := st.desc_slice
  have hrun : ∀ a n c, (Instr.sliceAt t (.slice a n c) vl vh none).run P w = (Instr.slice t (.slice a n c) vl vh none).run P w := by
   intro a n c; simp [Instr.sliceAt, st.run_und]
  split at h
  ·rename_i ei E' sz n f kl l kh hh hei
   obtain ⟨d2, i2, s2⟩ := Tab.info hT hei
   obtain ⟨a, c, rfl, hnc⟩ := seq_slice hx.rp
   obtain ⟨_, rfl, hvl⟩ := hlo _ rfl
   obtain ⟨_, rfl, hvh⟩ := hhi _ rfl
   obtain rfl := hvl.int
   obtain rfl := hvh.int
   refine .okIf h fun ⟨h0, hlh, hhn, hsz⟩ => ?_
   rw [hrun]
   simp only [Instr.slice, Sem.run_bind, st.run_und, Result.andThen_ok, s2.run_sizeOf]
   rw [run_bounds_lh true _ _ _ _ _ _ h0 hlh (by omega)]
   subst hsz
   refine ⟨_, rfl, ?_⟩
   have := seq_cut hx.rp l.toNat hh.toNat c (by omega) (by omega) (by omega)
   rw [show (hh - l).toNat = hh.toNat - l.toNat by omega]
   exact .pv _ _ this
  ·rename_i ei E' sz n f kh hh hei
   obtain ⟨d2, i2, s2⟩ := Tab.info hT hei
   obtain ⟨a, c, rfl, hnc⟩ := seq_slice hx.rp
   obtain rfl := hlo0 rfl
   obtain ⟨_, rfl, hvh⟩ := hhi _ rfl
   obtain rfl := hvh.int
   refine .okIf h fun ⟨h0, hhn, hsz⟩ => ?_
   rw [hrun]
   simp only [Instr.slice, Sem.run_bind, st.run_und, Result.andThen_ok, s2.run_sizeOf]
   rw [run_bounds_h true _ _ _ _ h0 (by omega)]
   subst hsz
   refine ⟨_, rfl, ?_⟩
   have := seq_cut hx.rp 0 hh.toNat c (by omega) (by omega) (by omega)
   simp only [Nat.zero_add, Nat.sub_zero] at this
   exact .pv _ _ this
  ·rename_i ei E' sz n f kl l hei
   obtain ⟨d2, i2, s2⟩ := Tab.info hT hei
   obtain ⟨a, c, rfl, hnc⟩ := seq_slice hx.rp
   obtain ⟨_, rfl, hvl⟩ := hlo _ rfl
   obtain rfl := hhi0 rfl
   obtain rfl := hvl.int
   refine .okIf h fun ⟨h0, hhn, hsz⟩ => ?_
   rw [hrun]
   simp only [Instr.slice, Sem.run_bind, st.run_und, Result.andThen_ok, s2.run_sizeOf]
   rw [run_bounds_l true _ _ _ _ h0 (by omega)]
   subst hsz
   refine ⟨_, rfl, ?_⟩
   by_cases hn0 : n = 0
   ·rw [show ((n : Int) - l).toNat = 0 by omega]
    rw [show n - l.toNat = 0 by omega]
    exact .pv _ _ (.seq0 _ _ _ _ _)
   ·have := seq_cut hx.rp l.toNat n c (by omega) (by omega) (by omega)
    rw [show ((n : Int) - l).toNat = n - l.toNat by omega]
    exact .pv _ _ this
  ·rename_i ei id gen sz off len kl l kh hh hei
   obtain ⟨d2, i2, s2⟩ := Tab.info hT hei
   obtain ⟨a, c, rfl, hnc⟩ := row_slice hx
   obtain ⟨_, rfl, hvl⟩ := hlo _ rfl
   obtain ⟨_, rfl, hvh⟩ := hhi _ rfl
   obtain rfl := hvl.int
   obtain rfl := hvh.int
   refine .okIf h fun ⟨h0, hlh, hhn, hsz⟩ => ?_
   rw [hrun]
   simp only [Instr.slice, Sem.run_bind, st.run_und, Result.andThen_ok, s2.run_sizeOf]
   rw [run_bounds_lh true _ _ _ _ _ _ h0 hlh (by omega)]
   subst hsz
   refine ⟨_, rfl, ?_⟩
   have := row_cut hx l.toNat hh.toNat c (by omega) (by omega) (by omega) (Nat.le_refl _)
   rw [show (hh - l).toNat = hh.toNat - l.toNat by omega]
   exact this
  ·rename_i ei id gen sz off len kh hh hei
   obtain ⟨d2, i2, s2⟩ := Tab.info hT hei
   obtain ⟨a, c, rfl, hnc⟩ := row_slice hx
   obtain rfl := hlo0 rfl
   obtain ⟨_, rfl, hvh⟩ := hhi _ rfl
   obtain rfl := hvh.int
   refine .okIf h fun ⟨h0, hhn, hsz⟩ => ?_
   rw [hrun]
   simp only [Instr.slice, Sem.run_bind, st.run_und, Result.andThen_ok, s2.run_sizeOf]
   rw [run_bounds_h true _ _ _ _ h0 (by omega)]
   subst hsz
   refine ⟨_, rfl, ?_⟩
   have := row_cut hx 0 hh.toNat c (by omega) (by omega) (by omega) (Nat.le_refl _)
   exact this
  ·rename_i ei id gen sz off len kl l hei
   obtain ⟨d2, i2, s2⟩ := Tab.info hT hei
   obtain ⟨a, c, rfl, hnc⟩ := row_slice hx
   obtain ⟨_, rfl, hvl⟩ := hlo _ rfl
   obtain rfl := hhi0 rfl
   obtain rfl := hvl.int
   refine .okIf h fun ⟨h0, hhn, hsz⟩ => ?_
   rw [hrun]
   simp only [Instr.slice, Sem.run_bind, st.run_und, Result.andThen_ok, s2.run_sizeOf]
   rw [run_bounds_l true _ _ _ _ h0 (by omega)]
   subst hsz
   refine ⟨_, rfl, ?_⟩
   have := row_cut hx l.toNat len c (by omega) (by omega) (by omega) (Nat.le_refl _)
   rw [show ((len : Int) - l).toNat = len - l.toNat by omega]
   exact this
  ·simp at h
 ·simp at h

theorem opSlice3_pure (hT : T.ok P = true) {t : TypeId} {x lo hi mx : AV} {vx vl vh vm : Value} {r : Res} (h : opSlice3 T t x lo hi mx = some r) (hx : Ra φ w M x vx)
  (hvl : Ra φ w M lo vl) (hvh : Ra φ w M hi vh) (hvm : Ra φ w M mx vm) : Pure P φ M w (Instr.sliceAt t vx (some vl) (some vh) (some vm)) r := by
 unfold opSlice3 at h
 split at h
 ·rename_i E _ _ _ hti
  obtain ⟨d, ii, st⟩ := Tab.info hT hti
  obtain rfl := st.desc_slice
  have hrun : ∀ a n c vl vh vm, (Instr.sliceAt t (.slice a n c) vl vh vm).run P w = (Instr.slice t (.slice a n c) vl vh vm).run P w := by
   intro a n c vl vh vm; simp [Instr.sliceAt, st.run_und]
  split at h
  ·rename_i ei E' sz n f kl l kh hh km m hei
   obtain ⟨d2, i2, s2⟩ := Tab.info hT hei
   obtain ⟨a, c, rfl, hnc⟩ := seq_slice hx.rp
   obtain rfl := hvl.int
   obtain rfl := hvh.int
   obtain rfl := hvm.int
   refine .okIf h fun ⟨h0, hlh, hhm, hmn, hsz⟩ => ?_
   rw [hrun]
   simp only [Instr.slice, Sem.run_bind, st.run_und, Result.andThen_ok, s2.run_sizeOf]
   rw [run_bounds_lhm true _ _ _ _ _ _ _ _ h0 hlh hhm (by omega)]
   subst hsz
   refine ⟨_, rfl, ?_⟩
   have := seq_cut hx.rp l.toNat hh.toNat m.toNat (by omega) (by omega) (by omega)
   rw [show (hh - l).toNat = hh.toNat - l.toNat by omega]
   exact .pv _ _ this
  ·rename_i ei id gen sz off len kl l kh hh km m hei
   obtain ⟨d2, i2, s2⟩ := Tab.info hT hei
   obtain ⟨a, c, rfl, hnc⟩ := row_slice hx
   obtain rfl := hvl.int
   obtain rfl := hvh.int
   obtain rfl := hvm.int
   refine .okIf h fun ⟨h0, hlh, hhm, hmn, hsz⟩ => ?_
   rw [hrun]
   simp only [Instr.slice, Sem.run_bind, st.run_und, Result.andThen_ok, s2.run_sizeOf]
   rw [run_bounds_lhm true _ _ _ _ _ _ _ _ h0 hlh hhm (by omega)]
   subst hsz
   refine ⟨_, rfl, ?_⟩
   have := row_cut hx l.toNat hh.toNat m.toNat (by omega) (by omega) (by omega) (by omega)
   rw [show (hh - l).toNat = hh.toNat - l.toNat by omega]
   exact this
  ·simp at h
 ·simp at h

end

def updF {α : Type} (f : Nat → Option α) (k : Nat) (v : α) : Nat → Option α := fun x => bif Nat.beq x k then some v else f x

theorem updF_same {α : Type} (f : Nat → Option α) (k : Nat) (v : α) : updF f k v k = some v := by simp [updF]
theorem updF_ne {α : Type} (f : Nat → Option α) {k x : Nat} (v : α) (h : x ≠ k) : updF f k v x = f x := by
 have hb : Nat.beq x k = false := by
  cases hc : Nat.beq x k with
  | true => exact absurd (Nat.eq_of_beq_eq_true hc) h
  | false => rfl
 simp [updF, hb]

def putBlk (w : World) (b : Nat) (o : Obj) : World := { w with heap := w.heap.setIfInBounds b o }

theorem putBlk_get {w : World} {b : Nat} {o o' : Obj} (h : w.heap[b]? = some o') (k : Nat) : (putBlk w b o).heap[k]? = if k = b then some o else w.heap[k]? := by
 have hb : b < w.heap.size := (Array.getElem?_eq_some_iff.mp h).1
 simp only [putBlk, Array.getElem?_setIfInBounds]
 by_cases hk : k = b
 ·subst hk; simp [hb]
 ·rw [if_neg (fun e => hk e.symm), if_neg hk]
theorem putBlk_self {w : World} {b : Nat} {o : Obj} (h : w.heap[b]? = some o) : putBlk w b o = w := by
 have hb : b < w.heap.size := (Array.getElem?_eq_some_iff.mp h).1
 have : w.heap.setIfInBounds b o = w.heap := by
  apply Array.ext_getElem?
  intro k
  rw [Array.getElem?_setIfInBounds]
  by_cases hk : b = k
  ·subst hk; rw [if_pos rfl, if_pos hb, h]
  ·rw [if_neg hk]
 simp only [putBlk, this]
theorem putBlk_put (w : World) (b : Nat) (o o' : Obj) : putBlk (putBlk w b o) b o' = putBlk w b o' := by
 simp [putBlk]
theorem bsize_put {w : World} {b : Nat} {arr arr' : Array Value} {E : TypeId} {fz : Nat × Nat} (h : w.heap[b]? = some (.cells arr E fz)) (hs : arr'.size = arr.size) (k : Nat) :
  bsize (putBlk w b (.cells arr' E fz)) k = bsize w k := by
 unfold bsize
 rw [putBlk_get h]
 by_cases hk : k = b
 ·subst hk; simp [h, hs]
 ·rw [if_neg hk]
theorem bsize_at {w : World} {b : Nat} {arr : Array Value} {E : TypeId} {fz : Nat × Nat} (h : w.heap[b]? = some (.cells arr E fz)) : bsize w b = arr.size := by
 simp [bsize, h]

theorem setCell_put {w : World} {g o : Nat} {cur : Array Value} {t : TypeId} {fz : Nat × Nat} (h : w.heap[g]? = some (.cells cur t fz)) (v : Value) :
  w.setCell ⟨g, o, none⟩ v = putBlk w g (.cells (cur.setIfInBounds o v) t fz) := by
 have hb : g < w.heap.size := (Array.getElem?_eq_some_iff.mp h).1
 have hg := (Array.getElem?_eq_some_iff.mp h).2
 have : w.heap.modify g (fun
   | .cells c elem frozen => .cells (if (none : Option Nat).isSome then c else c.setIfInBounds o v) elem frozen
   | o => o) = w.heap.setIfInBounds g (.cells (cur.setIfInBounds o v) t fz) := by
  apply Array.ext_getElem?
  intro k
  rw [Array.getElem?_modify, Array.getElem?_setIfInBounds]
  by_cases hk : g = k
  ·subst hk; simp [hb, hg]
  ·rw [if_neg hk, if_neg hk]
 unfold World.setCell putBlk
 exact congrArg (fun hp => ({ w with heap := hp } : World)) this

theorem run_store_row {P : Program} (g o : Nat) (t : TypeId) (fz : Nat × Nat) : ∀ (vs : List Value) (i : Nat) (cur : Array Value) (w : World), w.heap[g]? = some (.cells cur t fz) →
  (∀ k, k < cur.size → ¬ (fz.1 ≤ k ∧ k < fz.2)) → o + i + vs.length ≤ cur.size → (∀ v ∈ vs, v.oneCell' = true) →
  ∃ cur', (storeCells ⟨g, o, none⟩ vs i).run P w = .ok () (putBlk w g (.cells cur' t fz)) ∧ cur'.size = cur.size ∧
   ∀ k, cur'[k]? = if o + i ≤ k ∧ k < o + i + vs.length then vs[k - (o + i)]? else cur[k]? := by
 intro vs
 induction vs with
 | nil =>
   intro i cur w hg hfz hl h1
   refine ⟨cur, ?_, rfl, fun k => ?_⟩
   ·rw [putBlk_self hg]; rfl
   ·rw [if_neg (by simp)]
 | cons v rest ih =>
   intro i cur w hg hfz hl h1
   simp only [List.length_cons] at hl
   have hlt : o + i < cur.size := by omega
   have hcell : w.cell? ⟨g, o + i, none⟩ = some cur[o + i] := by
    rw [World.cell?_at hg, Array.getElem?_eq_getElem hlt]
   have hfr : w.frozen? ⟨g, o + i, none⟩ = false := by
    have := hfz (o + i) hlt
    simp only [World.frozen?, hg]
    simp only [Bool.and_eq_false_iff, decide_eq_false_iff_not]
    omega
   have hstep := setCell_put hg v (o := o + i)
   obtain ⟨cur', hrun, hsz, hget⟩ := ih (i + 1) (cur.setIfInBounds (o + i) v) (putBlk w g (.cells (cur.setIfInBounds (o + i) v) t fz))
    (by rw [putBlk_get hg, if_pos rfl]) (by simpa using hfz) (by simp; omega) (fun x hx => h1 x (List.mem_cons_of_mem _ hx))
   refine ⟨cur', ?_, by simpa using hsz, fun k => ?_⟩
   ·simp only [storeCells, Sem.run_bind, addr_add, run_store P w _ v _ (h1 v (List.mem_cons_self ..)), hcell, hfr, Bool.false_eq_true, if_false, Result.andThen_ok, hstep]
    rw [hrun, putBlk_put]
   ·rw [hget k, Array.getElem?_setIfInBounds]
    by_cases h1k : o + (i + 1) ≤ k ∧ k < o + (i + 1) + rest.length
    ·rw [if_pos h1k, if_pos (by simp; omega)]
     rw [show k - (o + i) = (k - (o + (i + 1))) + 1 by omega]
     rfl
    ·rw [if_neg h1k]
     by_cases hk : o + i = k
     ·subst hk; simp [hlt]
     ·rw [if_neg hk, if_neg (by simp; omega)]

section
variable {C : Came} {φ : Names} {M : Blocks} {H : Heap} {used : List Nat} {w : World}

theorem Ra.drawn {v : AV} {x : Value} (h : Ra φ w M v x) (n : Nat) : Ra φ { w with drawn := n } M v x :=
 Ra.mono (w := w) (w' := { w with drawn := n }) (φ := φ) (M := M) (fun _ _ _ h => h) (fun _ h => h) (fun b _ => show w.heap[b]? = w.heap[b]? from rfl) (fun b => show bsize w b ≤ bsize w b from Nat.le_refl _) h

theorem Mem.drawn (h : Mem C φ M H used w) (n : Nat) : Mem C φ M H used { w with drawn := n } where
 heap :=
  { own := fun id o ho => by
     rcases h.heap.own id o ho with h0 | ⟨b, arr, fz, h1, h2, h3, h4, h5, h6, h7⟩
     ·exact .inl ⟨h0.1, ObjAt.or h0.2 (fun h => h) (fun _ h => h) (fun _ _ _ _ => rfl) (fun _ _ _ h => h) (fun _ _ h => h.drawn n)⟩
     ·exact .inr ⟨b, arr, fz, h1, h2, h3, h4, h5, h6, fun i j hi hj => (h7 i j hi hj).drawn n⟩
    inj := h.heap.inj, last := h.heap.last, mlt := h.heap.mlt }
 used := h.used
 dom := h.dom
 os := h.os
 tape := h.tape
 output := h.output
 size := h.size
 frame := h.frame
 fresh := h.fresh
 reads := h.reads
 keeps := h.keeps
 sizes := fun b => h.sizes b
 nlt := h.nlt
 far := h.far

def Holds (φ : Names) (w : World) (M : Blocks) (o : AO) (arr : Array Value) : Prop :=
 (o.sz ≠ 0 ∧ o.n * o.sz ≤ arr.size) ∧ (∀ i j, i < o.n → j < o.sz → (arr.getD (i * o.sz + j) undef).oneCell' = true) ∧
   (∀ i j, i < o.n → j < o.sz → Ra φ w M (o.f i j) (arr.getD (i * o.sz + j) undef))

def nameIt (φ : Names) (id g b : Nat) : Names := fun i k => if i = id ∧ k = g then some b else φ i k
theorem nameIt_same (φ : Names) (id g b : Nat) : nameIt φ id g b id g = some b := by simp [nameIt]
theorem nameIt_le {φ : Names} {id g b : Nat} (h : φ id g = none) : ∀ i k c, φ i k = some c → nameIt φ id g b i k = some c := by
 intro i k c hc
 simp only [nameIt]
 rw [if_neg]
 ·exact hc
 ·rintro ⟨rfl, rfl⟩; rw [h] at hc; cases hc

theorem alloc_get (w : World) (o : Obj) (n : Nat) {b : Nat} (hb : b < w.heap.size) : ({ w with heap := w.heap.push o, drawn := n } : World).heap[b]? = w.heap[b]? := by
 simp only [Array.getElem?_push]; rw [if_neg (by omega)]
theorem alloc_bsize (w : World) (o : Obj) (n b : Nat) : bsize w b ≤ bsize { w with heap := w.heap.push o, drawn := n } b := by
 by_cases hb : b < w.heap.size
 ·unfold bsize; rw [alloc_get w o n hb]; exact Nat.le_refl _
 ·unfold bsize; rw [Array.getElem?_eq_none (by omega)]; exact Nat.zero_le _

theorem Ra.alloc {φ' : Names} (hφ : ∀ i k c, φ i k = some c → φ' i k = some c) (hM : ∀ b, M b → b < w.heap.size) {v : AV} {x : Value} (h : Ra φ w M v x) (o : Obj) (n : Nat) :
  Ra φ' { w with heap := w.heap.push o, drawn := n } M v x :=
 h.mono hφ (fun _ h => h) (fun b hb => alloc_get w o n (hM b hb)) (alloc_bsize w o n)

theorem nameIt_lt {φ : Names} {N : Blocks} {id g b n m : Nat} (h : ∀ i g c, φ i g = some c → c < n ∧ ¬ N c) (hb : b < m ∧ ¬ N b) (hn : n ≤ m) : ∀ i g' c, nameIt φ id g b i g' = some c → c < m ∧ ¬ N c := by
 intro i g' c hc
 simp only [nameIt] at hc
 split at hc
 ·obtain rfl := Option.some.inj hc; exact hb
 ·exact ⟨Nat.lt_of_lt_of_le (h i g' c hc).1 hn, (h i g' c hc).2⟩

theorem Mem.new (h : Mem C φ M H used w) {id : Nat} {o : AO} (hid : id ∉ used) (n : Nat) {arr : Array Value} {fz : Nat × Nat} (hfz : FzOk fz arr.size) (hh : Holds φ w M o arr) :
  Mem C (nameIt φ id o.gen w.heap.size) M (updF H id o) (id :: used) { w with heap := w.heap.push (.cells arr o.E fz), drawn := n } := by
 have hnone : ∀ g, φ id g = none := fun g => by
  cases hc : φ id g with
  | none => rfl
  | some b => exact absurd (h.used id g b hc) hid
 have hHid : H id = none := by
  cases hc : H id with
  | none => rfl
  | some o' => exact absurd (h.dom id o' hc) hid
 have hle := nameIt_le (b := w.heap.size) (hnone o.gen)
 have hlt : ∀ i k c, φ i k = some c → True := fun _ _ _ _ => trivial
 have hold : ∀ id' o', H id' = some o' → id' ≠ id := fun id' o' h1 e => by subst e; rw [hHid] at h1; cases h1
 have hname : ∀ id' g, id' ≠ id → nameIt φ id o.gen w.heap.size id' g = φ id' g := fun id' g hne => by
  simp only [nameIt]; rw [if_neg (fun e => hne e.1)]
 have hbl : ∀ id' o' b, H id' = some o' → φ id' o'.gen = some b → b < w.heap.size := fun id' o' b h1 h2 => by
  rcases h.heap.own id' o' h1 with ⟨_, h0⟩ | ⟨b', arr', fz', h3, h4, _⟩
  ·exact ObjAt.lt h0 h2
  ·rw [h3] at h2; obtain rfl := Option.some.inj h2; exact (Array.getElem?_eq_some_iff.mp h4).1
 refine { heap := { own := ?_, inj := ?_, last := ?_, mlt := ?_ }, used := ?_, dom := ?_, os := h.os, tape := h.tape, output := h.output, size := ?_, frame := ?_, fresh := ?_, reads := h.reads, keeps := h.keeps, sizes := fun b => Nat.le_trans (h.sizes b) (alloc_bsize w _ _ b), nlt := nameIt_lt h.nlt ⟨by simp, fun hno => absurd (h.far.2 _ hno) (Nat.not_lt.mpr h.size)⟩ (by simp), far := h.far }
 ·intro id' o' ho'
  by_cases he : id' = id
  ·subst he
   rw [updF_same] at ho'
   obtain rfl := Option.some.inj ho'
   refine .inr ⟨w.heap.size, arr, fz, nameIt_same _ _ _ _, by simp, hfz, hh.1, fun hM => Nat.lt_irrefl _ (h.heap.mlt _ hM), hh.2.1, fun i j hi hj => (hh.2.2 i j hi hj).alloc hle h.heap.mlt _ _⟩
  ·rw [updF_ne _ _ he] at ho'
   rcases h.heap.own id' o' ho' with h0 | ⟨b, arr', fz', h1, h2, h3, h4, h5, h6, h7⟩
   ·exact .inl ⟨h0.1, by rw [hname _ _ he]; exact ObjAt.or h0.2 (fun h => h) (fun _ h => h) (fun b _ hb _ => alloc_get w _ _ hb) (fun _ _ _ h => h) (fun _ _ hx => hx.alloc hle h.heap.mlt _ _)⟩
   ·refine .inr ⟨b, arr', fz', hle _ _ _ h1, ?_, h3, h4, h5, h6, fun i j hi hj => (h7 i j hi hj).alloc hle h.heap.mlt _ _⟩
    rw [alloc_get w _ _ (hbl id' o' b ho' h1)]; exact h2
 ·intro id1 id2 o1 o2 b h1 h2 h3 h4
  by_cases e1 : id1 = id <;> by_cases e2 : id2 = id
  ·rw [e1, e2]
  ·subst e1
   rw [updF_same] at h1; obtain rfl := Option.some.inj h1
   rw [updF_ne _ _ e2] at h2
   rw [nameIt_same] at h3; obtain rfl := Option.some.inj h3
   rw [hname _ _ e2] at h4
   exact absurd (hbl _ _ _ h2 h4) (Nat.lt_irrefl _)
  ·subst e2
   rw [updF_same] at h2; obtain rfl := Option.some.inj h2
   rw [updF_ne _ _ e1] at h1
   rw [nameIt_same] at h4; obtain rfl := Option.some.inj h4
   rw [hname _ _ e1] at h3
   exact absurd (hbl _ _ _ h1 h3) (Nat.lt_irrefl _)
  ·rw [updF_ne _ _ e1] at h1; rw [updF_ne _ _ e2] at h2
   rw [hname _ _ e1] at h3; rw [hname _ _ e2] at h4
   exact h.heap.inj _ _ _ _ _ h1 h2 h3 h4
 ·intro id' o' g b ho' hg
  by_cases he : id' = id
  ·subst he
   rw [updF_same] at ho'; obtain rfl := Option.some.inj ho'
   simp only [nameIt] at hg
   by_cases hgg : g = o.gen
   ·omega
   ·rw [if_neg (fun e => hgg e.2), hnone] at hg; cases hg
  ·rw [updF_ne _ _ he] at ho'; rw [hname _ _ he] at hg
   exact h.heap.last _ _ _ _ ho' hg
 ·intro b hb; simp; have := h.heap.mlt b hb; omega
 ·intro id' g b hb
  by_cases he : id' = id
  ·rw [he]; exact List.mem_cons_self ..
  ·rw [hname _ _ he] at hb; exact List.mem_cons_of_mem _ (h.used _ _ _ hb)
 ·intro id' o' ho'
  by_cases he : id' = id
  ·rw [he]; exact List.mem_cons_self ..
  ·rw [updF_ne _ _ he] at ho'; exact List.mem_cons_of_mem _ (h.dom _ _ ho')
 ·simp; have := h.size; omega
 ·intro b hb hown
  rw [alloc_get w _ _ (by have := h.size; omega)]
  exact h.frame b hb hown
 ·intro id' o' b ho' hb
  by_cases he : id' = id
  ·subst he
   rw [updF_same] at ho'; obtain rfl := Option.some.inj ho'
   rw [nameIt_same] at hb; obtain rfl := Option.some.inj hb
   exact .inr h.size
  ·rw [updF_ne _ _ he] at ho'; rw [hname _ _ he] at hb
   exact h.fresh _ _ _ ho' hb

theorem Mem.void (h : Mem C φ M H used w) {id : Nat} {o : AO} (hid : id ∉ used) (hn : o.n = 0) : Mem C φ M (updF H id o) (id :: used) w := by
 have hnone : ∀ g, φ id g = none := fun g => by
  cases hc : φ id g with
  | none => rfl
  | some b => exact absurd (h.used id g b hc) hid
 refine { heap := { own := ?_, inj := ?_, last := ?_, mlt := h.heap.mlt }, used := fun i g b hb => List.mem_cons_of_mem _ (h.used i g b hb), dom := ?_, os := h.os, tape := h.tape, output := h.output, size := h.size, frame := h.frame, fresh := ?_, reads := h.reads, keeps := h.keeps, sizes := h.sizes, nlt := h.nlt, far := h.far }
 ·intro id' o' ho'
  by_cases he : id' = id
  ·subst he; rw [updF_same] at ho'; obtain rfl := Option.some.inj ho'; exact .inl ⟨hn, .inl (hnone _)⟩
  ·rw [updF_ne _ _ he] at ho'; exact h.heap.own id' o' ho'
 ·intro id1 id2 o1 o2 b h1 h2 h3 h4
  by_cases e1 : id1 = id
  ·subst e1; rw [hnone] at h3; cases h3
  ·by_cases e2 : id2 = id
   ·subst e2; rw [hnone] at h4; cases h4
   ·rw [updF_ne _ _ e1] at h1; rw [updF_ne _ _ e2] at h2; exact h.heap.inj _ _ _ _ _ h1 h2 h3 h4
 ·intro id' o' g b ho' hg
  by_cases he : id' = id
  ·subst he; rw [hnone] at hg; cases hg
  ·rw [updF_ne _ _ he] at ho'; exact h.heap.last _ _ _ _ ho' hg
 ·intro id' o' ho'
  by_cases he : id' = id
  ·rw [he]; exact List.mem_cons_self ..
  ·rw [updF_ne _ _ he] at ho'; exact List.mem_cons_of_mem _ (h.dom _ _ ho')
 ·intro id' o' b ho' hb
  by_cases he : id' = id
  ·subst he; rw [hnone] at hb; cases hb
  ·rw [updF_ne _ _ he] at ho'; exact h.fresh _ _ _ ho' hb

theorem Ra.put {b : Nat} {arr arr' : Array Value} {E : TypeId} {fz : Nat × Nat} (hblk : w.heap[b]? = some (.cells arr E fz)) (hs : arr'.size = arr.size) (hM : ¬ M b) {φ' : Names} (hφ : ∀ i k c, φ i k = some c → φ' i k = some c)
  {v : AV} {x : Value} (h : Ra φ w M v x) : Ra φ' (putBlk w b (.cells arr' E fz)) M v x :=
 h.mono hφ (fun _ h => h) (fun k hk => by rw [putBlk_get hblk, if_neg (fun e : k = b => hM (e ▸ hk))]) (fun k => Nat.le_of_eq (bsize_put hblk hs k).symm)

theorem Mem.upd (h : Mem C φ M H used w) {id : Nat} {o o' : AO} (ho : H id = some o) {b : Nat} {arr arr' : Array Value} {fz : Nat × Nat} (hφ : φ id o.gen = some b) (hblk : w.heap[b]? = some (.cells arr o.E fz))
  (hs : arr'.size = arr.size) (hE : o'.E = o.E) (hg : o'.gen = o.gen ∨ o'.gen = o.gen + 1) (hh : Holds φ w M o' arr') :
  Mem C (nameIt φ id o'.gen b) M (updF H id o') used (putBlk w b (.cells arr' o.E fz)) := by
 obtain ⟨b0, arr0, fz0, h1, h2, h3, h4, h5, h6, h7⟩ := (h.heap.own id o ho).resolve_left (fun h0 => ObjAt.no h0.2 hφ hblk)
 rw [hφ] at h1; obtain rfl := Option.some.inj h1
 rw [hblk] at h2; injection h2 with h2; injection h2 with e1 e2 e3; subst e1; subst e3
 have hle : ∀ i k c, φ i k = some c → nameIt φ id o'.gen b i k = some c := by
  intro i k c hc
  simp only [nameIt]
  by_cases he : i = id ∧ k = o'.gen
  ·rw [if_pos he]
   obtain ⟨rfl, rfl⟩ := he
   rcases hg with e | e
   ·rw [e, hφ] at hc; exact hc
   ·have := h.heap.last _ _ _ _ ho hc; omega
  ·rw [if_neg he]; exact hc
 have hname : ∀ id' g, id' ≠ id → nameIt φ id o'.gen b id' g = φ id' g := fun id' g hne => by
  simp only [nameIt]; rw [if_neg (fun e => hne e.1)]
 refine { heap := { own := ?_, inj := ?_, last := ?_, mlt := ?_ }, used := ?_, dom := ?_, os := h.os, tape := h.tape, output := h.output, size := ?_, frame := ?_, fresh := ?_, reads := h.reads, keeps := h.keeps, sizes := fun k => Nat.le_trans (h.sizes k) (Nat.le_of_eq (bsize_put hblk hs k).symm), nlt := nameIt_lt h.nlt ⟨by simpa [putBlk] using (Array.getElem?_eq_some_iff.mp hblk).1, (h.nlt _ _ _ hφ).2⟩ (by simp [putBlk]), far := h.far }
 ·intro id' o1 ho1
  by_cases he : id' = id
  ·subst he
   rw [updF_same] at ho1; obtain rfl := Option.some.inj ho1
   refine .inr ⟨b, arr', fz, nameIt_same _ _ _ _, ?_, by rw [hs]; exact h3, hh.1, h5, hh.2.1, fun i j hi hj => (hh.2.2 i j hi hj).put hblk hs h5 hle⟩
   rw [putBlk_get hblk, if_pos rfl, hE]
  ·rw [updF_ne _ _ he] at ho1
   rcases h.heap.own id' o1 ho1 with h0 | ⟨b1, arr1, fz1, g1, g2, g3, g4, g5, g6, g7⟩
   ·exact .inl ⟨h0.1, by rw [hname _ _ he]; exact ObjAt.or h0.2 (fun h => h) (fun _ h => h) (fun b1 hb1 _ _ => by rw [putBlk_get hblk, if_neg (fun e : b1 = b => he (h.heap.inj _ _ _ _ _ ho1 ho (e ▸ hb1) hφ))]) (fun _ _ _ h => h) (fun _ _ hx => hx.put hblk hs h5 hle)⟩
   ·refine .inr ⟨b1, arr1, fz1, hle _ _ _ g1, ?_, g3, g4, g5, g6, fun i j hi hj => (g7 i j hi hj).put hblk hs h5 hle⟩
    rw [putBlk_get hblk, if_neg]
    ·exact g2
    ·rintro rfl; exact he (h.heap.inj _ _ _ _ _ ho1 ho g1 hφ)
 ·intro id1 id2 o1 o2 b1 g1 g2 g3 g4
  by_cases e1 : id1 = id <;> by_cases e2 : id2 = id
  ·rw [e1, e2]
  ·subst e1
   rw [updF_same] at g1; obtain rfl := Option.some.inj g1
   rw [updF_ne _ _ e2] at g2
   rw [nameIt_same] at g3; obtain rfl := Option.some.inj g3
   rw [hname _ _ e2] at g4
   exact (h.heap.inj _ _ _ _ _ g2 ho g4 hφ).symm
  ·subst e2
   rw [updF_same] at g2; obtain rfl := Option.some.inj g2
   rw [updF_ne _ _ e1] at g1
   rw [nameIt_same] at g4; obtain rfl := Option.some.inj g4
   rw [hname _ _ e1] at g3
   exact h.heap.inj _ _ _ _ _ g1 ho g3 hφ
  ·rw [updF_ne _ _ e1] at g1; rw [updF_ne _ _ e2] at g2
   rw [hname _ _ e1] at g3; rw [hname _ _ e2] at g4
   exact h.heap.inj _ _ _ _ _ g1 g2 g3 g4
 ·intro id' o1 g b1 ho1 hgb
  by_cases he : id' = id
  ·subst he
   rw [updF_same] at ho1; obtain rfl := Option.some.inj ho1
   simp only [nameIt] at hgb
   by_cases hgg : g = o'.gen
   ·omega
   ·rw [if_neg (fun e => hgg e.2)] at hgb
    have := h.heap.last _ _ _ _ ho hgb
    omega
  ·rw [updF_ne _ _ he] at ho1; rw [hname _ _ he] at hgb
   exact h.heap.last _ _ _ _ ho1 hgb
 ·intro b1 hb1; simp [putBlk]; exact h.heap.mlt b1 hb1
 ·intro id' g b1 hb1
  by_cases he : id' = id
  ·rw [he]; exact h.dom _ _ ho
  ·rw [hname _ _ he] at hb1; exact h.used _ _ _ hb1
 ·intro id' o1 ho1
  by_cases he : id' = id
  ·rw [he]; exact h.dom _ _ ho
  ·rw [updF_ne _ _ he] at ho1; exact h.dom _ _ ho1
 ·simp [putBlk]; exact h.size
 ·intro b1 hb1 hown
  rw [putBlk_get hblk, if_neg]
  ·exact h.frame b1 hb1 hown
  ·rintro rfl
   rcases h.fresh _ _ _ ho hφ with h8 | h8
   ·exact hown h8
   ·omega
 ·intro id' o1 b1 ho1 hb1
  by_cases he : id' = id
  ·subst he
   rw [updF_same] at ho1; obtain rfl := Option.some.inj ho1
   rw [nameIt_same] at hb1; obtain rfl := Option.some.inj hb1
   exact h.fresh _ _ _ ho hφ
  ·rw [updF_ne _ _ he] at ho1; rw [hname _ _ he] at hb1
   exact h.fresh _ _ _ ho1 hb1

theorem Mem.move (h : Mem C φ M H used w) {id : Nat} {o o' : AO} (ho : H id = some o) (n : Nat) {arr : Array Value} {fz : Nat × Nat} (hfz : FzOk fz arr.size) (hg : o'.gen = o.gen + 1) (hh : Holds φ w M o' arr) :
  Mem C (nameIt φ id o'.gen w.heap.size) M (updF H id o') used { w with heap := w.heap.push (.cells arr o'.E fz), drawn := n } := by
 have hnone : φ id o'.gen = none := by
  cases hc : φ id o'.gen with
  | none => rfl
  | some b => have := h.heap.last _ _ _ _ ho hc; omega
 have hle := nameIt_le (b := w.heap.size) hnone
 have hname : ∀ id' g, id' ≠ id → nameIt φ id o'.gen w.heap.size id' g = φ id' g := fun id' g hne => by
  simp only [nameIt]; rw [if_neg (fun e => hne e.1)]
 have hbl : ∀ id' o' b, H id' = some o' → φ id' o'.gen = some b → b < w.heap.size := fun id' o' b h1 h2 => by
  rcases h.heap.own id' o' h1 with ⟨_, h0⟩ | ⟨b', arr', fz', h3, h4, _⟩
  ·exact ObjAt.lt h0 h2
  ·rw [h3] at h2; obtain rfl := Option.some.inj h2; exact (Array.getElem?_eq_some_iff.mp h4).1
 refine { heap := { own := ?_, inj := ?_, last := ?_, mlt := ?_ }, used := ?_, dom := ?_, os := h.os, tape := h.tape, output := h.output, size := ?_, frame := ?_, fresh := ?_, reads := h.reads, keeps := h.keeps, sizes := fun b => Nat.le_trans (h.sizes b) (alloc_bsize w _ _ b), nlt := nameIt_lt h.nlt ⟨by simp, fun hno => absurd (h.far.2 _ hno) (Nat.not_lt.mpr h.size)⟩ (by simp), far := h.far }
 ·intro id' o1 ho1
  by_cases he : id' = id
  ·subst he
   rw [updF_same] at ho1; obtain rfl := Option.some.inj ho1
   refine .inr ⟨w.heap.size, arr, fz, nameIt_same _ _ _ _, by simp, hfz, hh.1, fun hM => Nat.lt_irrefl _ (h.heap.mlt _ hM), hh.2.1, fun i j hi hj => (hh.2.2 i j hi hj).alloc hle h.heap.mlt _ _⟩
  ·rw [updF_ne _ _ he] at ho1
   rcases h.heap.own id' o1 ho1 with h0 | ⟨b, arr', fz', h1, h2, h3, h4, h5, h6, h7⟩
   ·exact .inl ⟨h0.1, by rw [hname _ _ he]; exact ObjAt.or h0.2 (fun h => h) (fun _ h => h) (fun b _ hb _ => alloc_get w _ _ hb) (fun _ _ _ h => h) (fun _ _ hx => hx.alloc hle h.heap.mlt _ _)⟩
   ·refine .inr ⟨b, arr', fz', hle _ _ _ h1, ?_, h3, h4, h5, h6, fun i j hi hj => (h7 i j hi hj).alloc hle h.heap.mlt _ _⟩
    rw [alloc_get w _ _ (hbl id' o1 b ho1 h1)]; exact h2
 ·intro id1 id2 o1 o2 b h1 h2 h3 h4
  by_cases e1 : id1 = id <;> by_cases e2 : id2 = id
  ·rw [e1, e2]
  ·subst e1
   rw [updF_same] at h1; obtain rfl := Option.some.inj h1
   rw [updF_ne _ _ e2] at h2
   rw [nameIt_same] at h3; obtain rfl := Option.some.inj h3
   rw [hname _ _ e2] at h4
   exact absurd (hbl _ _ _ h2 h4) (Nat.lt_irrefl _)
  ·subst e2
   rw [updF_same] at h2; obtain rfl := Option.some.inj h2
   rw [updF_ne _ _ e1] at h1
   rw [nameIt_same] at h4; obtain rfl := Option.some.inj h4
   rw [hname _ _ e1] at h3
   exact absurd (hbl _ _ _ h1 h3) (Nat.lt_irrefl _)
  ·rw [updF_ne _ _ e1] at h1; rw [updF_ne _ _ e2] at h2
   rw [hname _ _ e1] at h3; rw [hname _ _ e2] at h4
   exact h.heap.inj _ _ _ _ _ h1 h2 h3 h4
 ·intro id' o1 g b ho1 hgb
  by_cases he : id' = id
  ·subst he
   rw [updF_same] at ho1; obtain rfl := Option.some.inj ho1
   simp only [nameIt] at hgb
   by_cases hgg : g = o'.gen
   ·omega
   ·rw [if_neg (fun e => hgg e.2)] at hgb
    have := h.heap.last _ _ _ _ ho hgb
    omega
  ·rw [updF_ne _ _ he] at ho1; rw [hname _ _ he] at hgb
   exact h.heap.last _ _ _ _ ho1 hgb
 ·intro b hb; simp; have := h.heap.mlt b hb; omega
 ·intro id' g b hb
  by_cases he : id' = id
  ·rw [he]; exact h.dom _ _ ho
  ·rw [hname _ _ he] at hb; exact h.used _ _ _ hb
 ·intro id' o1 ho1
  by_cases he : id' = id
  ·rw [he]; exact h.dom _ _ ho
  ·rw [updF_ne _ _ he] at ho1; exact h.dom _ _ ho1
 ·simp; have := h.size; omega
 ·intro b hb hown
  rw [alloc_get w _ _ (by have := h.size; omega)]
  exact h.frame b hb hown
 ·intro id' o1 b ho1 hb
  by_cases he : id' = id
  ·subst he
   rw [updF_same] at ho1; obtain rfl := Option.some.inj ho1
   rw [nameIt_same] at hb; obtain rfl := Option.some.inj hb
   exact .inr h.size
  ·rw [updF_ne _ _ he] at ho1; rw [hname _ _ he] at hb
   exact h.fresh _ _ _ ho1 hb

end

def Eff.heap (e : Eff) (H : Heap) : Heap :=
 match e with
 | .none => H
 | .upd id o | .new id o | .app id o => updF H id o
def Eff.used (e : Eff) (U : List Nat) : List Nat :=
 match e with
 | .new id _ => id :: U
 | _ => U
def Eff.fits (e : Eff) (U : List Nat) : Prop :=
 match e with
 | .new id _ => id ∉ U
 | _ => True

def Does (P : Program) (C : Came) (φ : Names) (M : Blocks) (H : Heap) (U : List Nat) (w : World) (s : Sem Value) (r : Res) : Prop :=
 r.obl → ∃ x w' φ', s.run P w = .ok x w' ∧ (∀ i g b, φ i g = some b → φ' i g = some b) ∧ (∀ b, M b → w'.heap[b]? = w.heap[b]?) ∧ (∀ b, bsize w b ≤ bsize w' b) ∧
  Mem C φ' M (r.eff.heap H) (r.eff.used U) w' ∧ Ra φ' w' M r.v x

theorem Pure.does {P : Program} {C : Came} {φ : Names} {M : Blocks} {H : Heap} {U : List Nat} {w : World} {s : Sem Value} {r : Res} (h : Pure P φ M w s r) (hm : Mem C φ M H U w) : Does P C φ M H U w s r := by
 intro ho
 obtain ⟨x, h1, h2⟩ := h.2 ho
 rw [h.1]
 exact ⟨x, w, φ, h1, fun _ _ _ h => h, fun _ _ => rfl, fun _ => Nat.le_refl _, hm, h2⟩

theorem oneCell_cells {v : Value} (h : v.oneCell' = true) : v.cells = #[v] := by
 cases v <;> simp_all [Value.oneCell', Value.cells]



section
variable {P : Program} {C : Came} {φ : Names} {M : Blocks} {H : Heap} {U : List Nat} {w : World} {T : Tab}

theorem cellsOf_sound {ti : TI} {v : AV} {x : Value} {g : Nat → AV} (h : cellsOf ti v = some g) (hx : Ra φ w M v x) :
  x.cells.size = ti.size ∧ (∀ j, j < ti.size → (x.cells.getD j undef).oneCell' = true) ∧ (∀ j, j < ti.size → Ra φ w M (g j) (x.cells.getD j undef)) := by
 unfold cellsOf at h
 cases hk : ti.kind.agg with
 | true =>
   rw [hk] at h
   simp only [cond_true] at h
   split at h
   ·rename_i n f
    cases hb : (Nat.beq n ti.size && allN (fun j => (f j).isCell) n) with
    | false => rw [hb] at h; simp at h
    | true =>
      rw [hb] at h
      simp only [Bool.and_eq_true] at hb
      obtain rfl := Option.some.inj h
      have hn := Nat.eq_of_beq_eq_true hb.1
      cases hx with | agg _ _ cs hcs hone hr =>
      subst hn
      exact ⟨hcs, hone, hr⟩
   ·simp at h
 | false =>
   rw [hk] at h
   simp only [cond_false] at h
   cases hb : (v.isCell && Nat.beq ti.size 1) with
   | false => rw [hb] at h; simp at h
   | true =>
     rw [hb] at h
     simp only [Bool.and_eq_true] at hb
     obtain rfl := Option.some.inj h
     have hn := Nat.eq_of_beq_eq_true hb.2
     have h1 := hx.oneCell hb.1
     rw [oneCell_cells h1, hn]
     refine ⟨rfl, fun j hj => ?_, fun j hj => ?_⟩
     ·rw [show j = 0 by omega]; exact h1
     ·rw [show j = 0 by omega]; exact hx

theorem getD_mem {vs : Array Value} {n : Nat} (hn : vs.size = n) (h : ∀ j, j < n → (vs.getD j undef).oneCell' = true) : ∀ v ∈ vs.toList, v.oneCell' = true := by
 intro v hv
 obtain ⟨j, hj, rfl⟩ := List.getElem_of_mem hv
 have hj' : j < vs.size := by simpa using hj
 have := h j (by omega)
 simpa [Array.getD, hj'] using this

theorem opStore_does (hT : T.ok P = true) (hm : Mem C φ M H U w) {t : TypeId} {x v : AV} {vx vv : Value} {r : Res} (h : opStore T t x v H = some r) (hx : Ra φ w M x vx) (hv : Ra φ w M v vv) :
  r.obl → ∃ w' φ', (Instr.storeAt t vx vv).run P w = .ok () w' ∧ (∀ i g b, φ i g = some b → φ' i g = some b) ∧ (∀ b, M b → w'.heap[b]? = w.heap[b]?) ∧ (∀ b, bsize w b ≤ bsize w' b) ∧
   Mem C φ' M (r.eff.heap H) (r.eff.used U) w' := by
 unfold opStore at h
 split at h
 ·rename_i ti id gen sz i off hti
  obtain ⟨d, ii, st⟩ := Tab.info hT hti
  split at h
  ·rename_i o g ho hg
   obtain rfl := Option.some.inj h
   rintro ⟨rfl, rfl, hi, hoff⟩
   cases hx with | ptr _ _ _ _ _ b hφ =>
   obtain ⟨b', arr, fz, h1, h2, h3, h4, h5, h6, h7⟩ := (hm.heap.own id o ho).resolve_left (fun h0 => by omega)
   rw [hφ] at h1; obtain rfl := Option.some.inj h1
   obtain ⟨c1, c2, c3⟩ := cellsOf_sound hg hv
   have hin : i * o.sz + o.sz ≤ arr.size := by
    have : (i + 1) * o.sz ≤ o.n * o.sz := Nat.mul_le_mul_right _ hi
    rw [Nat.succ_mul] at this; omega
   obtain ⟨arr', hrun, hsz, hget⟩ := run_store_row (P := P) b (i * o.sz + off) o.E fz vv.cells.toList 0 arr w h2 h3.out (by simp [c1]; omega) (getD_mem c1 c2)
   have hD : ∀ k, arr'.getD k undef = if i * o.sz + off ≤ k ∧ k < i * o.sz + off + ti.size then vv.cells.getD (k - (i * o.sz + off)) undef else arr.getD k undef := by
    intro k
    rw [Array.getD_eq_getD_getElem?, hget k]
    simp only [Nat.add_zero, Array.length_toList, c1]
    split
    ·rw [Array.getD_eq_getD_getElem?]; simp
    ·rw [Array.getD_eq_getD_getElem?]
   refine ⟨_, _, ?_, ?_, ?_, ?_, hm.upd ho hφ h2 hsz (o' := { o with f := setCells o.f i off ti.size g }) rfl (.inl rfl) ⟨⟨h4.1, by have := h4.2; show o.n * o.sz ≤ arr'.size; omega⟩, ?_, ?_⟩⟩
   ·simp only [Instr.storeAt, Instr.sureAddr, storeVar, Sem.run_bind, Sem.run_pure, Result.andThen_ok, st.run_sizeOf, c1, ne_eq, not_true_eq_false, if_false]
    exact hrun
   ·intro i' k c hc
    simp only [nameIt]
    by_cases he : i' = id ∧ k = o.gen
    ·rw [if_pos he]; obtain ⟨rfl, rfl⟩ := he; rw [hφ] at hc; exact hc
    ·rw [if_neg he]; exact hc
   ·intro k hk; rw [putBlk_get h2, if_neg (fun e : k = b => h5 (e ▸ hk))]
   ·intro k; exact Nat.le_of_eq (bsize_put h2 hsz k).symm
   ·intro i' j hi' hj
    show (arr'.getD (i' * o.sz + j) undef).oneCell' = true
    rw [hD]
    split
    ·rename_i hc; exact c2 _ (by omega)
    ·exact h6 i' j hi' hj
   ·intro i' j hi' hj
    show Ra φ w M (setCells o.f i off ti.size g i' j) (arr'.getD (i' * o.sz + j) undef)
    rw [hD]
    have hj' : j < o.sz := hj
    simp only [setCells]
    by_cases hii : i' = i
    ·subst hii
     rw [show Nat.beq i' i' = true from Nat.beq_refl i']
     simp only [cond_true]
     by_cases hc : off ≤ j ∧ j < off + ti.size
     ·rw [if_pos (by omega), show Nat.ble off j = true from Nat.ble_eq_true_of_le hc.1, show Nat.ble (j + 1) (off + ti.size) = true from Nat.ble_eq_true_of_le hc.2]
      simp only [Bool.and_self, cond_true]
      rw [show i' * o.sz + j - (i' * o.sz + off) = j - off by omega]
      exact c3 _ (by omega)
     ·rw [if_neg (by omega)]
      have : (Nat.ble off j && Nat.ble (j + 1) (off + ti.size)) = false := by
       cases hb : (Nat.ble off j && Nat.ble (j + 1) (off + ti.size)) with
       | false => rfl
       | true =>
         simp only [Bool.and_eq_true] at hb
         exact absurd ⟨Nat.le_of_ble_eq_true hb.1, Nat.le_of_ble_eq_true hb.2⟩ hc
      rw [this]
      exact h7 i' j hi' hj
    ·have hb : Nat.beq i' i = false := by
      cases hc : Nat.beq i' i with
      | true => exact absurd (Nat.eq_of_beq_eq_true hc) hii
      | false => rfl
     rw [hb]
     simp only [cond_false]
     rw [if_neg]
     ·exact h7 i' j hi' hj
     ·rintro ⟨g1, g2⟩
      rcases Nat.lt_or_gt_of_ne hii with h | h
      ·have : (i' + 1) * o.sz ≤ i * o.sz := Nat.mul_le_mul_right _ h
       rw [Nat.succ_mul] at this; omega
      ·have : (i + 1) * o.sz ≤ i' * o.sz := Nat.mul_le_mul_right _ h
       rw [Nat.succ_mul] at this; omega
  ·simp at h
 ·simp at h

theorem new_does (hm : Mem C φ M H U w) {id : Nat} {o : AO} (hid : id ∉ U) (n : Nat) {arr : Array Value} {fz : Nat × Nat} (hfz : FzOk fz arr.size) (hh : Holds φ w M o arr) :
  ∃ φ', (∀ i g b, φ i g = some b → φ' i g = some b) ∧ φ' id o.gen = some w.heap.size ∧ (∀ b, M b → ({ w with heap := w.heap.push (.cells arr o.E fz), drawn := n } : World).heap[b]? = w.heap[b]?) ∧
   (∀ b, bsize w b ≤ bsize { w with heap := w.heap.push (.cells arr o.E fz), drawn := n } b) ∧ Mem C φ' M (updF H id o) (id :: U) { w with heap := w.heap.push (.cells arr o.E fz), drawn := n } := by
 refine ⟨nameIt φ id o.gen w.heap.size, nameIt_le ?_, nameIt_same _ _ _ _, fun b hb => alloc_get w _ _ (hm.heap.mlt b hb), alloc_bsize w _ _, hm.new hid n hfz hh⟩
 cases hc : φ id o.gen with
 | none => rfl
 | some b => exact absurd (hm.used id _ b hc) hid

theorem opBox_does (_hT : T.ok P = true) (hm : Mem C φ M H U w) {t : TypeId} {v : AV} {vv : Value} {d : Nat} {r : Res} (hd : d ∉ U) (h : opBox T t v d = some r) (hv : Ra φ w M v vv) :
  Does P C φ M H U w (Instr.box t vv) r := by
 unfold opBox at h
 split at h
 ·rename_i ti hti
  split at h
  ·rename_i g hg
   obtain rfl := Option.some.inj h
   intro _
   obtain ⟨hz0, hg⟩ := cellsOf1_out hg
   obtain ⟨c1, c2, c3⟩ := cellsOf_sound hg hv
   obtain ⟨φ', p1, p2, p3, p4, p5⟩ := new_does (o := ⟨t, 0, ti.size, 1, fun _ j => g j⟩) hm hd w.drawn (arr := vv.cells) (fz := (0, 0)) (.zero _) ⟨⟨hz0, by simp [c1]⟩, fun i j hi hj => by
    have : i = 0 := by simpa using hi
    subst this; simpa using c2 j hj, fun i j hi hj => by
    have : i = 0 := by simpa using hi
    subst this; simpa using c3 j hj⟩
   refine ⟨.pointer (some ⟨w.heap.size, 0, none⟩), _, φ', ?_, p1, p3, p4, p5, ?_⟩
   ·simp [Instr.box, newVar, newRow]
   ·have := Ra.ptr (φ := φ') (w := { w with heap := w.heap.push (.cells vv.cells t (0, 0)), drawn := w.drawn }) (M := M) d 0 ti.size 0 0 w.heap.size p2
    simpa using this
  ·simp at h
 ·simp at h

theorem opAlloc_does (hT : T.ok P = true) (hm : Mem C φ M H U w) {t : TypeId} {d : Nat} {r : Res} (hd : d ∉ U) (h : opAlloc T t d = some r) :
  Does P C φ M H U w (Instr.alloc t true (.tuple #[])) r := by
 unfold opAlloc at h
 split at h
 ·rename_i ti hti
  obtain rfl := Option.some.inj h
  obtain ⟨hz0, hti⟩ := Tab.get1_out hti
  obtain ⟨dd, ii, st⟩ := Tab.info hT hti
  intro _
  obtain ⟨z, hz, hzk, hzs, hzz⟩ := st.run_zero w
  obtain ⟨φ', p1, p2, p3, p4, p5⟩ := new_does (o := ⟨t, 0, ti.size, 1, fun _ j => ti.zero j⟩) hm hd w.drawn (arr := z.cells) (fz := (0, 0)) (.zero _) ⟨⟨hz0, by simp [hzs]⟩, fun i j hi hj => by
    have : i = 0 := by simpa using hi
    subst this; simpa using (isZero_sound (hzz j hj) φ w M).2.1, fun i j hi hj => by
    have : i = 0 := by simpa using hi
    subst this; simpa using (isZero_sound (hzz j hj) φ w M).1⟩
  refine ⟨.pointer (some ⟨w.heap.size, 0, none⟩), _, φ', ?_, p1, p3, p4, p5, ?_⟩
  ·simp [Instr.alloc, newVar, newRow, hz]
  ·have := Ra.ptr (φ := φ') (w := { w with heap := w.heap.push (.cells z.cells t (0, 0)), drawn := w.drawn }) (M := M) d 0 ti.size 0 0 w.heap.size p2
   simpa using this
 ·simp at h

end

section
variable {P : Program} {C : Came} {φ : Names} {M : Blocks} {H : Heap} {U : List Nat} {w : World} {T : Tab}

def Cells (φ : Names) (w : World) (M : Blocks) (f : Nat → AV) (n : Nat) (cs : Array Value) : Prop :=
 cs.size = n ∧ (∀ j, j < n → (cs.getD j undef).oneCell' = true) ∧ (∀ j, j < n → Ra φ w M (f j) (cs.getD j undef))

theorem blt_iff {a b : Nat} {p : Nat} : ((Nat.ble a p && Nat.ble (p + 1) (a + b)) = true) ↔ (a ≤ p ∧ p < a + b) := by
 simp only [Bool.and_eq_true]
 constructor
 ·rintro ⟨h1, h2⟩; exact ⟨Nat.le_of_ble_eq_true h1, Nat.le_of_ble_eq_true h2⟩
 ·rintro ⟨h1, h2⟩; exact ⟨Nat.ble_eq_true_of_le h1, Nat.ble_eq_true_of_le h2⟩

theorem foldl_set (off : Nat) : ∀ (vs : List Value) (k : Nat) (cs : Array Value), off + k + vs.length ≤ cs.size →
  ((vs.zipIdx k).foldl (fun cs (c, j) => cs.setIfInBounds (off + j) c) cs).size = cs.size ∧
  ∀ p, ((vs.zipIdx k).foldl (fun cs (c, j) => cs.setIfInBounds (off + j) c) cs).getD p undef = if off + k ≤ p ∧ p < off + k + vs.length then vs.getD (p - (off + k)) undef else cs.getD p undef := by
 intro vs
 induction vs with
 | nil => intro k cs _; exact ⟨rfl, fun p => by rw [if_neg (by simp)]; rfl⟩
 | cons v vs ih =>
   intro k cs h
   simp only [List.length_cons] at h
   simp only [List.zipIdx_cons, List.foldl_cons]
   obtain ⟨h1, h2⟩ := ih (k + 1) (cs.setIfInBounds (off + k) v) (by simp; omega)
   refine ⟨by rw [h1]; simp, fun p => ?_⟩
   rw [h2 p]
   by_cases hp : off + (k + 1) ≤ p ∧ p < off + (k + 1) + vs.length
   ·rw [if_pos hp, if_pos (by simp; omega)]
    rw [show p - (off + k) = (p - (off + (k + 1))) + 1 by omega]
    simp
   ·rw [if_neg hp]
    by_cases he : p = off + k
    ·subst he
     rw [if_pos (by simp)]
     simp [Array.getD_eq_getD_getElem?, show off + k < cs.size by omega]
    ·rw [if_neg (by simp; omega)]
     simp only [Array.getD_eq_getD_getElem?, Array.getElem?_setIfInBounds]
     rw [if_neg (fun e => he e.symm)]

theorem fill_sound {place : Nat → Option (Nat × Nat)} {n : Nat} : ∀ (parts : List (Nat × AV)) (vals : List (Nat × Value)) (f f' : Nat → AV) (cs : Array Value),
  parts.map (·.1) = vals.map (·.1) → (∀ k, k < parts.length → ∃ v x, parts[k]? = some v ∧ vals[k]? = some x ∧ Ra φ w M v.2 x.2) →
  (∀ i off size, place i = some (off, size) → i ∈ parts.map (·.1) → off + size ≤ n) →
  Cells φ w M f n cs → fillF place parts f = some f' → ∃ cs', Instr.fill place cs vals = some cs' ∧ Cells φ w M f' n cs' := by
 intro parts
 induction parts with
 | nil =>
   intro vals f f' cs h1 _ _ hc hf
   have : vals = [] := by simpa using h1.symm
   subst this
   simp only [fillF, Option.some.injEq] at hf
   subst hf
   exact ⟨cs, rfl, hc⟩
 | cons q parts ih =>
   intro vals f f' cs h1 h2 h3 hc hf
   obtain ⟨i, v⟩ := q
   cases vals with
   | nil => simp at h1
   | cons y vals =>
     obtain ⟨i', x⟩ := y
     simp only [List.map_cons, List.cons.injEq] at h1
     obtain ⟨rfl, h1⟩ := h1
     have hvx : Ra φ w M v x := by
      obtain ⟨v', x', e1, e2, e3⟩ := h2 0 (by simp)
      simp at e1 e2; subst e1; subst e2; exact e3
     have h2' : ∀ k, k < parts.length → ∃ v x, parts[k]? = some v ∧ vals[k]? = some x ∧ Ra φ w M v.2 x.2 := fun k hk => by
      obtain ⟨v', x', e1, e2, e3⟩ := h2 (k + 1) (by simpa using hk)
      exact ⟨v', x', by simpa using e1, by simpa using e2, e3⟩
     have h3' : ∀ i off size, place i = some (off, size) → i ∈ parts.map (·.1) → off + size ≤ n := fun i off size hp hi => h3 i off size hp (List.mem_cons_of_mem _ hi)
     simp only [fillF] at hf
     cases hp : place i with
     | none => rw [hp] at hf; simp at hf
     | some os =>
       obtain ⟨off, size⟩ := os
       rw [hp] at hf
       simp only at hf
       have hoff : off + size ≤ n := h3 i off size hp (List.mem_cons_self ..)
       obtain ⟨hcs, hone, hra⟩ := hc
       have go : ∀ (g : Nat → AV), x.cells.size = size → (∀ j, j < size → (x.cells.getD j undef).oneCell' = true) → (∀ j, j < size → Ra φ w M (g j) (x.cells.getD j undef)) →
         ∀ f1, (∀ p, p < n → f1 p = if off ≤ p ∧ p < off + size then g (p - off) else f p) → fillF place parts f1 = some f' → ∃ cs', Instr.fill place cs ((i, x) :: vals) = some cs' ∧ Cells φ w M f' n cs' := by
        intro g c1 c2 c3 f1 hf1 hff
        obtain ⟨s1, s2⟩ := foldl_set off x.cells.toList 0 cs (by simp [c1]; omega)
        have hcell : Cells φ w M f1 n ((x.cells.toList.zipIdx 0).foldl (fun cs (c, j) => cs.setIfInBounds (off + j) c) cs) := by
         refine ⟨by rw [s1]; exact hcs, fun j hj => ?_, fun j hj => ?_⟩
         ·rw [s2 j]
          simp only [Nat.add_zero, Array.length_toList, c1]
          split
          ·rename_i hc; have := c2 (j - off) (by omega); simpa [Array.getD_eq_getD_getElem?, List.getD_eq_getElem?_getD] using this
          ·exact hone j hj
         ·rw [s2 j, hf1 j hj]
          simp only [Nat.add_zero, Array.length_toList, c1]
          by_cases hc : off ≤ j ∧ j < off + size
          ·rw [if_pos hc, if_pos hc]
           have := c3 (j - off) (by omega); simpa [Array.getD_eq_getD_getElem?, List.getD_eq_getElem?_getD] using this
          ·rw [if_neg hc, if_neg hc]; exact hra j hj
        obtain ⟨cs', e1, e2⟩ := ih vals f1 f' _ h1 h2' h3' hcell hff
        refine ⟨cs', ?_, e2⟩
        simp only [Instr.fill, hp]
        rw [if_neg (by simp [c1]; omega)]
        rw [← e1]
        congr 1
        rw [← Array.foldl_toList]
        simp [Array.toList_zipIdx]
       split at hf
       ·rename_i m g
        cases hb : (Nat.beq m size && allN (fun j => (g j).isCell) m) with
        | false => rw [hb] at hf; simp at hf
        | true =>
          rw [hb] at hf
          simp only [Bool.and_eq_true, cond_true] at hb hf
          have hm := Nat.eq_of_beq_eq_true hb.1
          subst hm
          cases hvx with | agg _ _ as has hone' hr =>
          refine go g has hone' hr _ (fun p _ => ?_) hf
          by_cases hc : off ≤ p ∧ p < off + m
          ·rw [if_pos hc, blt_iff.mpr hc]; rfl
          ·rw [if_neg hc]
           cases hbb : (Nat.ble off p && Nat.ble (p + 1) (off + m)) with
           | false => rfl
           | true => exact absurd (blt_iff.mp hbb) hc
       ·cases hb : (Nat.beq size 1 && v.isCell) with
        | false => rw [hb] at hf; simp at hf
        | true =>
          rw [hb] at hf
          simp only [Bool.and_eq_true, cond_true] at hb hf
          have hs := Nat.eq_of_beq_eq_true hb.1
          have h1c := hvx.oneCell hb.2
          have hcx := oneCell_cells h1c
          refine go (fun _ => v) (by rw [hcx, hs]; rfl) (fun j hj => ?_) (fun j hj => ?_) _ (fun p _ => ?_) hf
          ·rw [hcx, show j = 0 by omega]; exact h1c
          ·rw [hcx, show j = 0 by omega]; exact hvx
          ·by_cases hc : p = off
           ·subst hc
            rw [if_pos (by omega), show Nat.beq p p = true from Nat.beq_refl p]; rfl
           ·rw [if_neg (by omega)]
            cases hbb : Nat.beq p off with
            | false => rfl
            | true => exact absurd (Nat.eq_of_beq_eq_true hbb) hc

end

def Parts (φ : Names) (w : World) (M : Blocks) (parts : List (Nat × AV)) (vals : List (Nat × Value)) : Prop :=
 parts.map (·.1) = vals.map (·.1) ∧ ∀ k, k < parts.length → ∃ v x, parts[k]? = some v ∧ vals[k]? = some x ∧ Ra φ w M v.2 x.2

section
variable {P : Program} {C : Came} {φ : Names} {M : Blocks} {H : Heap} {U : List Nat} {w : World} {T : Tab}

theorem fillN_sound {place : Nat → Option (Nat × Nat)} {n : Nat} {parts : List (Nat × AV)} {vals : List (Nat × Value)} {f f' : Nat → AV} {cs : Array Value} (hp : Parts φ w M parts vals)
  (hc : Cells φ w M f n cs) (hf : fillN place n parts f = some f') : ∃ cs', Instr.fill place cs vals = some cs' ∧ Cells φ w M f' n cs' := by
 unfold fillN at hf
 cases hb : placeOK place n parts with
 | false => rw [hb] at hf; simp at hf
 | true =>
   rw [hb] at hf
   refine fill_sound parts vals f f' cs hp.1 hp.2 (fun i off size hpl hi => ?_) hc hf
   simp only [placeOK, List.all_eq_true] at hb
   obtain ⟨q, hq, rfl⟩ := List.mem_map.mp hi
   have := hb q hq
   rw [hpl] at this
   exact Nat.le_of_ble_eq_true this

theorem fill_congr {place place' : Nat → Option (Nat × Nat)} (h : ∀ i, place i = place' i) (cs : Array Value) (vals : List (Nat × Value)) : Instr.fill place cs vals = Instr.fill place' cs vals := by
 have : place = place' := funext h
 rw [this]

theorem places_run (hT : T.ok P = true) (w : World) : ∀ (gs : List Field), (∀ g ∈ gs, (T.get g.type).isSome = true) →
  (gs.mapM fun f => do pure (f.offset, ← sizeOf f.type) : Sem (List (Nat × Nat))).run P w = .ok (gs.map fun g => (g.offset, ((T.get g.type).map (·.size)).getD 0)) w := by
 intro gs
 induction gs with
 | nil => intro _; rfl
 | cons g gs ih =>
   intro h
   obtain ⟨fi, hfi⟩ := Option.isSome_iff_exists.mp (h g (List.mem_cons_self ..))
   obtain ⟨d2, i2, s2⟩ := Tab.info hT hfi
   simp only [List.mapM_cons, Sem.run_bind, s2.run_sizeOf, Result.andThen_ok, Sem.run_pure, List.map_cons, hfi, Option.map_some, Option.getD_some]
   rw [ih (fun g hg => h g (List.mem_cons_of_mem _ hg))]
   rfl

theorem opBuild_pure (hT : T.ok P = true) {t : TypeId} {parts : List (Nat × AV)} {vals : Array (Nat × Value)} {r : Res} (hall : ∀ ti fs, T.get t = some ti → ti.kind = .struct fs → ∀ q ∈ fs, (T.get q.2).isSome = true)
  (h : opBuild T t parts = some r) (hp : Parts φ w M parts vals.toList) : Pure P φ M w (Instr.build t vals) r := by
 unfold opBuild at h
 split at h
 ·rename_i ti hti
  obtain ⟨d, ii, st⟩ := Tab.info hT hti
  obtain ⟨z, hz, hzk, hzs, hzz⟩ := st.run_zero w
  have hzc : Cells φ w M ti.zero ti.size z.cells := ⟨hzs, fun j hj => (isZero_sound (hzz j hj) φ w M).2.1, fun j hj => (isZero_sound (hzz j hj) φ w M).1⟩
  split at h
  ·rename_i fs hk
   have hst := st.kind
   rw [hk] at hst
   obtain ⟨gs, rfl, hfs⟩ : ∃ gs : Array Field, d = .struct gs ∧ fs = gs.toList.map fun g => (g.offset, g.type) := by
    cases d <;> simp_all [TK.is]
   split at h
   ·rename_i f hf
    obtain ⟨cs', e1, e2⟩ := fillN_sound hp hzc hf
    refine .ok h (.agg cs') ?_ (.agg _ _ _ e2.1 e2.2.1 e2.2.2)
    have hsome : ∀ g ∈ gs.toList, (T.get g.type).isSome = true := fun g hg => hall ti fs hti hk (g.offset, g.type) (by rw [hfs]; exact List.mem_map.mpr ⟨g, hg, rfl⟩)
    have hpl := places_run hT w gs.toList hsome
    have hmap : (gs.mapM fun f => do pure (f.offset, ← sizeOf f.type) : Sem (Array (Nat × Nat))).run P w = .ok (gs.toList.map fun g => (g.offset, ((T.get g.type).map (·.size)).getD 0)).toArray w := by
     rw [Array.mapM_eq_mapM_toList, Sem.run_map, hpl]
     rfl
    simp only [Instr.build, Sem.run_bind, hz, Result.andThen_ok, st.run_und, hmap]
    rw [fill_congr (place' := structPlace T fs)]
    ·rw [e1]; rfl
    ·intro i
     rw [structPlace, hfs]
     simp only [List.getElem?_toArray, List.getElem?_map]
     cases hg : gs.toList[i]? with
     | none => rfl
     | some g =>
       obtain ⟨fi, hfi⟩ := Option.isSome_iff_exists.mp (hsome g (List.mem_of_getElem? hg))
       simp [hfi]
   ·simp at h
  ·rename_i nn E hk
   have hst := st.kind
   rw [hk] at hst
   obtain ⟨m, rfl⟩ : ∃ m, d = .array m E := by cases d <;> simp_all [TK.is]
   split at h
   ·rename_i ei hei
    obtain ⟨d2, i2, s2⟩ := Tab.info hT hei
    split at h
    ·rename_i f hf
     obtain ⟨cs', e1, e2⟩ := fillN_sound hp hzc hf
     refine .ok h (.agg cs') ?_ (.agg _ _ _ e2.1 e2.2.1 e2.2.2)
     simp only [Instr.build, Sem.run_bind, hz, Result.andThen_ok, st.run_und, s2.run_sizeOf]
     rw [e1]; rfl
    ·simp at h
   ·simp at h
  ·simp at h
 ·simp at h

theorem zeros_row {ei : TI} {z : Value} (hzs : z.cells.size = ei.size) (hzz : ∀ j, j < ei.size → isZero (ei.zero j) (z.cells.getD j undef) = true) (h0 : ei.size ≠ 0) (n : Nat) (zero : Array Value) (hzero : n = 0 ∨ zero = z.cells) :
  Cells φ w M (fun k => ei.zero (k % ei.size)) n ((Array.range n).map (zero[· % zero.size]!)) := by
 rcases hzero with rfl | rfl
 ·exact ⟨by simp, fun j hj => absurd hj (by omega), fun j hj => absurd hj (by omega)⟩
 ·have hg : ∀ j, j < n → ((Array.range n).map (z.cells[· % z.cells.size]!)).getD j undef = z.cells.getD (j % ei.size) undef := by
   intro j hj
   have : j % ei.size < z.cells.size := by rw [hzs]; exact Nat.mod_lt _ (by omega)
   simp [Array.getD_eq_getD_getElem?, hj, hzs]
   rw [Array.getElem!_eq_getD, Array.getD_eq_getD_getElem?, Array.getElem?_eq_getElem this]
   rfl
  refine ⟨by simp, fun j hj => ?_, fun j hj => ?_⟩
  ·rw [hg j hj]; exact (isZero_sound (hzz _ (Nat.mod_lt _ (by omega))) φ w M).2.1
  ·rw [hg j hj]; exact (isZero_sound (hzz _ (Nat.mod_lt _ (by omega))) φ w M).1

theorem row_lt {n sz i j : Nat} (hi : i < n) (hj : j < sz) : i * sz + j < n * sz := by
 have : (i + 1) * sz ≤ n * sz := Nat.mul_le_mul_right _ hi
 rw [Nat.succ_mul] at this; omega

theorem opBuildSlice_does (hT : T.ok P = true) (hm : Mem C φ M H U w) {t : TypeId} {len d : Nat} {parts : List (Nat × AV)} {vals : Array (Nat × Value)} {r : Res} (hd : d ∉ U)
  (h : opBuildSlice T t len parts d = some r) (hp : Parts φ w M parts vals.toList) : Does P C φ M H U w (Instr.buildSlice t len vals) r := by
 unfold opBuildSlice at h
 split at h
 ·rename_i E _ _ _ hti
  obtain ⟨dd, ii, st⟩ := Tab.info hT hti
  obtain rfl := st.desc_slice
  split at h
  ·rename_i ei hei
   obtain ⟨d2, i2, s2⟩ := Tab.info hT hei
   cases hb : (Nat.ble (len * ei.size) 16777216 && !Nat.beq ei.size 0) with
   | false => rw [hb] at h; simp at h
   | true =>
     rw [hb] at h
     simp only [Bool.and_eq_true, cond_true] at hb h
     have hle := Nat.le_of_ble_eq_true hb.1
     have h0 : ei.size ≠ 0 := fun e => by rw [e] at hb; simp at hb
     split at h
     ·rename_i f hf
      obtain rfl := Option.some.inj h
      intro _
      obtain ⟨z, hz, hzk, hzs, hzz⟩ := s2.run_zero w
      obtain ⟨zero, hzero⟩ : ∃ zero : Array Value, zero = if len * ei.size = 0 then #[] else z.cells := ⟨_, rfl⟩
      have hzo : len * ei.size = 0 ∨ zero = z.cells := by
       by_cases hl : len * ei.size = 0
       ·exact .inl hl
       ·rw [if_neg hl] at hzero; exact .inr hzero
      obtain ⟨cs', e1, e2⟩ := fillN_sound hp (zeros_row (φ := φ) (w := w) (M := M) hzs hzz h0 (len * ei.size) zero hzo) hf
      obtain ⟨φ', p1, p2, p3, p4, p5⟩ := new_does (o := ⟨E, 0, ei.size, len, rowOf f ei.size⟩) hm hd w.drawn (arr := cs') (fz := (0, 0)) (.zero _)
       ⟨⟨h0, by simp [e2.1]⟩, fun i j hi hj => e2.2.1 _ (row_lt hi hj), fun i j hi hj => e2.2.2 _ (row_lt hi hj)⟩
      refine ⟨.slice (some ⟨w.heap.size, 0, none⟩) len len, _, φ', ?_, p1, p3, p4, p5, ?_⟩
      ·have hbig : ¬ (len * ei.size > 2 ^ 24) := by omega
       simp only [Instr.buildSlice, Sem.run_bind, st.run_und, Result.andThen_ok, s2.run_sizeOf, if_neg hbig]
       by_cases hl : len * ei.size = 0
       ·rw [if_pos hl] at hzero ⊢
        subst hzero
        simp only [Sem.run_bind, Sem.run_pure, Result.andThen_ok]
        rw [e1]
        simp [newRow]
       ·rw [if_neg hl] at hzero ⊢
        subst hzero
        simp only [Sem.run_bind, Sem.run_pure, Result.andThen_ok, hz]
        rw [e1]
        simp [newRow]
      ·have := Ra.row (φ := φ') (w := { w with heap := w.heap.push (.cells cs' E (0, 0)), drawn := w.drawn }) (M := M) d 0 ei.size 0 len w.heap.size len p2 (Nat.le_refl _) (by simp [bsize, e2.1])
       simpa using this
     ·simp at h
  ·simp at h
 ·simp at h

end

section
variable {P : Program} {C : Came} {φ : Names} {M : Blocks} {H : Heap} {U : List Nat} {w : World} {T : Tab}

theorem opMakeSlice_does (hT : T.ok P = true) (hm : Mem C φ M H U w) {t : TypeId} {l c : AV} {vl vc : Value} {d : Nat} {r : Res} (hd : d ∉ U) (h : opMakeSlice T t l c d = some r)
  (hl : Ra φ w M l vl) (hc : Ra φ w M c vc) : Does P C φ M H U w (Instr.makeSlice t vl vc) r := by
 unfold opMakeSlice at h
 split at h
 ·rename_i E _ _ _ kl l kc c hti
  obtain ⟨dd, ii, st⟩ := Tab.info hT hti
  obtain rfl := st.desc_slice
  obtain rfl := hl.int
  obtain rfl := hc.int
  split at h
  ·rename_i ei hei
   obtain ⟨d2, i2, s2⟩ := Tab.info hT hei
   cases hb : Nat.beq ei.size 0 with
   | true => rw [hb] at h; simp at h
   | false =>
     rw [hb] at h
     have h0 : ei.size ≠ 0 := fun e => by rw [e] at hb; simp at hb
     obtain rfl := Option.some.inj h
     rintro ⟨g1, g2, g3, g4⟩
     obtain ⟨z, hz, hzk, hzs, hzz⟩ := s2.run_zero w
     have hwl : IntKind.i64.wrap l = l := IntWalk.i64_in _ (by omega)
     have hwc : IntKind.i64.wrap c = c := IntWalk.i64_in _ (by omega)
     obtain ⟨zero, hzero⟩ : ∃ zero : Array Value, zero = if c.toNat * ei.size = 0 then #[] else z.cells := ⟨_, rfl⟩
     have hzo : c.toNat * ei.size = 0 ∨ zero = z.cells := by
      by_cases hl : c.toNat * ei.size = 0
      ·exact .inl hl
      ·rw [if_neg hl] at hzero; exact .inr hzero
     have hrow := zeros_row (φ := φ) (w := w) (M := M) hzs hzz h0 (c.toNat * ei.size) zero hzo
     have hlc : l.toNat * ei.size ≤ c.toNat * ei.size := Nat.mul_le_mul_right _ (by omega)
     have hmod : ∀ i j, j < ei.size → (i * ei.size + j) % ei.size = j := fun i j hj => by
      rw [Nat.mul_comm, Nat.mul_add_mod, Nat.mod_eq_of_lt hj]
     obtain ⟨φ', p1, p2, p3, p4, p5⟩ := new_does (o := ⟨E, 0, ei.size, l.toNat, fun _ j => ei.zero j⟩) hm hd w.drawn (arr := (Array.range (c.toNat * ei.size)).map (zero[· % zero.size]!)) (fz := (0, 0)) (.zero _)
       ⟨⟨h0, by rw [hrow.1]; exact hlc⟩, fun i j hi hj => hrow.2.1 _ (Nat.lt_of_lt_of_le (row_lt hi hj) hlc), fun i j hi hj => by
         have := hrow.2.2 _ (Nat.lt_of_lt_of_le (row_lt hi hj) hlc)
         simp only [hmod i j hj] at this
         exact this⟩
     refine ⟨.slice (some ⟨w.heap.size, 0, none⟩) l.toNat c.toNat, _, φ', ?_, p1, p3, p4, p5, ?_⟩
     ·have hbytes : ¬ ((i2.bytes : Int) * c > 2 ^ 48) := by
       rw [s2.bytes, Int.mul_comm]; omega
      have hn1 : ¬ (c < 0) := by omega
      have hn2 : ¬ (l < 0) := by omega
      have hn3 : ¬ (l > c) := by omega
      simp only [Instr.makeSlice, Sem.run_bind, st.run_und, Result.andThen_ok, asInt, asIntOf, Sem.run_pure, s2.run_info, hwl, hwc, Bool.or_eq_true, decide_eq_true_eq, hn1, hn2, hn3, hbytes, or_self, if_false, run_askRoom, s2.run_sizeOf]
      by_cases hl : c.toNat * ei.size = 0
      ·rw [if_pos hl] at hzero ⊢
       subst hzero
       simp [newRow]
      ·rw [if_neg hl] at hzero ⊢
       subst hzero
       simp only [Sem.run_bind, Sem.run_pure, Result.andThen_ok, hz]
       simp [newRow]
     ·have := Ra.row (φ := φ') (w := { w with heap := w.heap.push (.cells ((Array.range (c.toNat * ei.size)).map (zero[· % zero.size]!)) E (0, 0)), drawn := w.drawn }) (M := M) d 0 ei.size 0 l.toNat w.heap.size c.toNat p2 (by omega) (by simp [bsize])
      simpa using this
  ·simp at h
 ·simp at h

theorem srcOf_sound (hm : Mem C φ M H U w) {ei : TI} {x : AV} {vx : Value} {n : Nat} {g : Nat → Nat → AV} {p : Prop} (h : srcOf ei x H = some (n, g, p)) (hp : p) (hx : Ra φ w M x vx) :
  (Builtin.lenOf vx).run P w = .ok n w ∧ ∃ cs, (∀ w' : World, w'.heap = w.heap → (Builtin.firstCells ei.size n vx).run P w' = .ok cs w') ∧ cs.size = n * ei.size ∧
    (∀ i j, i < n → j < ei.size → (cs.getD (i * ei.size + j) undef).oneCell' = true) ∧ (∀ i j, i < n → j < ei.size → Ra φ w M (g i j) (cs.getD (i * ei.size + j) undef)) := by
 have load : ∀ (b o k : Nat) (gg : Nat → Value), (∀ j, j < k → w.cell? ⟨b, o + j, none⟩ = some (gg j)) → ∀ w' : World, w'.heap = w.heap → (loadCells ⟨b, o, none⟩ k).run P w' = .ok (((List.range k).map gg).toArray) w' := by
  intro b o k gg hc w' hw'
  rw [run_loadCells (a := ⟨b, o, none⟩) (n := k) (f := gg) (h := fun j hj => by rw [addr_add]; have := hc j hj; simp only [World.cell?, hw'] at this ⊢; exact this)]
 have get : ∀ (k : Nat) (gg : Nat → Value) j, j < k → (((List.range k).map gg).toArray).getD j undef = gg j := by
  intro k gg j hj; simp [Array.getD_eq_getD_getElem?, hj]
 unfold srcOf at h
 split at h
 ·rename_i E sz m f
  simp only [Option.some.injEq, Prod.mk.injEq] at h
  obtain ⟨rfl, rfl, rfl⟩ := h
  subst hp
  have hrp := hx.rp
  cases hrp with
  | seq0 _ _ _ a c =>
    refine ⟨rfl, #[], fun w' _ => ?_, by simp, fun i j hi => absurd hi (by omega), fun i j hi => absurd hi (by omega)⟩
    cases a with
    | none => rfl
    | some ad => simp only [Builtin.firstCells, Nat.zero_mul]; rfl
  | seq _ _ _ _ b o c gg hM hnc hc h1c hr =>
    have hdm : ∀ k, k < m * ei.size → k / ei.size < m ∧ k % ei.size < ei.size ∧ k / ei.size * ei.size + k % ei.size = k := by
     intro k hk
     have h0 : 0 < ei.size := by
      rcases Nat.eq_zero_or_pos ei.size with h | h
      ·rw [h] at hk; simp at hk
      ·exact h
     exact ⟨(Nat.div_lt_iff_lt_mul h0).mpr hk, Nat.mod_lt _ h0, Nat.div_add_mod' k ei.size⟩
    have hld := load b o (m * ei.size) (fun k => gg (k / ei.size) (k % ei.size)) (fun k hk => by
     obtain ⟨d1, d2, d3⟩ := hdm k hk
     have := hc _ _ d1 d2
     rw [Nat.add_assoc, d3] at this
     exact this)
    have hdiv : ∀ i j, j < ei.size → (i * ei.size + j) / ei.size = i ∧ (i * ei.size + j) % ei.size = j := by
     intro i j hj
     have h0 : 0 < ei.size := by omega
     constructor
     ·rw [Nat.mul_comm, Nat.mul_add_div h0, Nat.div_eq_of_lt hj]; simp
     ·rw [Nat.mul_comm, Nat.mul_add_mod, Nat.mod_eq_of_lt hj]
    refine ⟨rfl, _, hld, by simp, fun i j hi hj => ?_, fun i j hi hj => ?_⟩
    ·rw [get _ _ _ (row_lt hi hj), (hdiv i j hj).1, (hdiv i j hj).2]; exact h1c i j hi hj
    ·rw [get _ _ _ (row_lt hi hj), (hdiv i j hj).1, (hdiv i j hj).2]; exact .pv _ _ (hr i j hi hj)
 ·rename_i id gen sz off len
  split at h
  ·rename_i o ho
   simp only [Option.some.injEq, Prod.mk.injEq] at h
   obtain ⟨rfl, rfl, rfl⟩ := h
   obtain ⟨rfl, rfl, hsz, hle⟩ := hp
   cases hx with
   | row0 _ _ _ _ a =>
     refine ⟨rfl, #[], fun w' _ => ?_, by simp, fun i j hi => absurd hi (by omega), fun i j hi => absurd hi (by omega)⟩
     cases a with
     | none => rfl
     | some ad => simp only [Builtin.firstCells, Nat.zero_mul]; rfl
   | row _ _ _ _ _ b c hφ hlc hbs =>
     by_cases hn0 : o.n = 0
     ·have : len = 0 := by omega
      subst this
      exact ⟨rfl, #[], fun w' _ => by simp only [Builtin.firstCells, Nat.zero_mul]; rfl, by simp, fun i j hi => absurd hi (by omega), fun i j hi => absurd hi (by omega)⟩
     ·obtain ⟨b', arr, fz, h1, h2, h3, h4, h5, h6, h7⟩ := (hm.heap.own id o ho).resolve_left (fun h0 => hn0 h0.1)
      rw [hφ] at h1; obtain rfl := Option.some.inj h1
      rw [← hsz]
      have hlen : off * o.sz + len * o.sz ≤ arr.size := by
       rw [← Nat.add_mul]; exact Nat.le_trans (Nat.mul_le_mul_right _ hle) h4.2
      have hld := load b (off * o.sz) (len * o.sz) (fun k => arr.getD (off * o.sz + k) undef) (fun k hk => by
       rw [World.cell?_at h2, Array.getElem?_eq_getElem (by omega)]
       simp [Array.getD_eq_getD_getElem?, show off * o.sz + k < arr.size by omega])
      have hpos : ∀ i j, off * o.sz + (i * o.sz + j) = (off + i) * o.sz + j := fun i j => by rw [Nat.add_mul]; omega
      refine ⟨rfl, _, hld, by simp, fun i j hi hj => ?_, fun i j hi hj => ?_⟩
      ·rw [get _ _ _ (row_lt hi hj), hpos]; exact h6 _ _ (by omega) hj
      ·rw [get _ _ _ (row_lt hi hj), hpos]; exact h7 _ _ (by omega) hj
  ·simp at h
 ·simp only [Option.some.injEq, Prod.mk.injEq] at h
  obtain ⟨rfl, rfl, rfl⟩ := h
  cases hx with
  | nilS => exact ⟨rfl, #[], fun _ _ => rfl, by simp, fun i j hi => absurd hi (by omega), fun i j hi => absurd hi (by omega)⟩
 ·rename_i s
  simp only [Option.some.injEq, Prod.mk.injEq] at h
  obtain ⟨rfl, rfl, rfl⟩ := h
  obtain rfl := hx.str
  rw [hp]
  have hs : (ByteArray.mk s.toArray).size = s.length := by simp [ByteArray.size]
  have hcs : ((ByteArray.mk s.toArray).extract 0 s.length).data.map (fun b => Value.int .u8 b.toNat) = (s.map fun b => Value.int .u8 b.toNat).toArray := by
   rw [bytes_extract]; simp
  refine ⟨by simp [Builtin.lenOf, hs], _, fun _ _ => rfl, by rw [hcs]; simp, fun i j hi hj => ?_, fun i j hi hj => ?_⟩
  ·rw [hcs, show j = 0 by omega]
   simp [Array.getD_eq_getD_getElem?, hi, Value.oneCell']
  ·rw [hcs, show j = 0 by omega]
   have : (s.map fun b => Value.int .u8 b.toNat).toArray.getD (i * 1 + 0) undef = .int .u8 (s.getD i 0).toNat := by
    simp [Array.getD_eq_getD_getElem?, hi, List.getD_eq_getElem?_getD]
   rw [this]
   exact .pv _ _ (.int _ _)
 ·simp at h

theorem zeroCells_size (z : Array Value) (n : Nat) : (Builtin.zeroCells z n).size = n * z.size := by simp [Builtin.zeroCells]

end

section
variable {P : Program} {C : Came} {φ : Names} {M : Blocks} {H : Heap} {U : List Nat} {w : World} {T : Tab}

theorem run_append_room {sT xT ty E : TypeId} {ei xi : TI} {d2 d3 : TypeDesc} {i1 i2 i3 : TypeInfo} {z1 : TI} (s1 : TIs P sT z1 (.slice E) i1) (s2 : TIs P E ei d2 i2) (s3 : TIs P xT xi d3 i3) (hx : isIntK xi.kind = false)
  {base : Option Addr} {len cap n : Nat} {vx : Value} {cs : Array Value} (hn : (Builtin.lenOf vx).run P w = .ok n w) (hcs : (Builtin.firstCells ei.size n vx).run P w = .ok cs w) (hroom : len + n ≤ cap) :
  (Builtin.append_ #[sT, xT] ty #[.slice base len cap, vx]).run P w = match base with
    | some a => (storeCells (a.add (len * ei.size)) cs.toList).run P w |>.andThen fun _ w' => .ok (.slice base (len + n) cap) w'
    | none => .ok (.slice base (len + n) cap) w := by
 have hni : ∀ k, d3 ≠ .int k := by
  have := s3.kind
  intro k e
  subst e
  cases hk : xi.kind <;> simp_all [TK.is, isIntK]
 simp only [Builtin.append_, Sem.run_bind, s1.run_und, s2.run_sizeOf, s3.run_und, Result.andThen_ok, List.getElem?_toArray, List.getElem?_cons_zero, List.getElem?_cons_succ, Sem.run_pure]
 cases d3 <;> first
  | exact absurd rfl (hni _)
  | (simp only [Bool.false_eq_true, if_false, Sem.run_bind, hn, Result.andThen_ok, hroom, if_true, Bool.not_false, hcs]
     cases base <;> simp only [Sem.run_bind, Sem.run_pure])

theorem run_append_grow {sT xT ty E : TypeId} {ei xi : TI} {d2 d3 : TypeDesc} {i1 i2 i3 : TypeInfo} {z1 : TI} (s1 : TIs P sT z1 (.slice E) i1) (s2 : TIs P E ei d2 i2) (s3 : TIs P xT xi d3 i3) (hx : isIntK xi.kind = false)
  {base : Option Addr} {len cap n : Nat} {vx : Value} {cs os : Array Value} (hn : (Builtin.lenOf vx).run P w = .ok n w) (hcs : ∀ w' : World, w'.heap = w.heap → (Builtin.firstCells ei.size n vx).run P w' = .ok cs w')
  (hos : ∀ w' : World, w'.heap = w.heap → (Builtin.firstCells ei.size len (.slice base len cap)).run P w' = .ok os w') (hroom : ¬ len + n ≤ cap) (hb : ei.bytes ≠ 0) (hlim : (len + n) * ei.bytes ≤ 140737488355328) :
  ∃ k zs newCap, (Builtin.append_ #[sT, xT] ty #[.slice base len cap, vx]).run P w = .ok (.slice (some ⟨w.heap.size, 0, none⟩) (len + n) newCap) { w with heap := w.heap.push (.cells (os ++ cs ++ zs) E (0, 0)), drawn := k } ∧
   len + n ≤ newCap ∧ zs.size = (newCap - (len + n)) * ei.size := by
 have hni : ∀ k, d3 ≠ .int k := by
  have := s3.kind
  intro k e
  subst e
  cases hk : xi.kind <;> simp_all [TK.is, isIntK]
 obtain ⟨z, hz, hzk, hzs, hzz⟩ := s2.run_zero { w with drawn := w.drawn + 1 }
 have hlt : len + n ≤ 140737488355328 := by
  have : (len + n) * 1 ≤ (len + n) * ei.bytes := Nat.mul_le_mul_left _ (by omega)
  omega
 have hfit : ¬ (Builtin.nextslicecap (len + n) cap * i2.bytes > 2 ^ 48) := by
  have h1 := Go.Room.nextslicecap_le' (need := len + n) (old := cap) (by omega)
  have h2 : Builtin.nextslicecap (len + n) cap * ei.bytes ≤ 2 * (len + n) * ei.bytes := Nat.mul_le_mul_right _ h1
  rw [Nat.mul_assoc] at h2
  rw [s2.bytes]; omega
 have hov : ¬ (((len + n : Nat) : Int) > IntKind.i64.max ∧ (False ∨ i2.bytes = 0)) := by
  rintro ⟨_, h | h⟩
  ·exact h
  ·rw [s2.bytes] at h; exact hb h
 have hov2 : ¬ (((len + n : Nat) : Int) > IntKind.i64.max ∧ (i2.bytes = 0)) := fun h => hov ⟨h.1, .inr h.2⟩
 let newCap := Question.cut (.appendCap (len + n) cap E) (w.tape w.drawn (.appendCap (len + n) cap E))
 have hcap : len + n ≤ newCap := by simp only [newCap, Question.cut]; omega
 refine ⟨w.drawn + 1, Builtin.zeroCells z.cells (newCap - (len + n)), newCap, ?_, hcap, by rw [zeroCells_size, hzs]⟩
 simp only [Builtin.append_, Sem.run_bind, s1.run_und, s2.run_sizeOf, s3.run_und, Result.andThen_ok, List.getElem?_toArray, List.getElem?_cons_zero, List.getElem?_cons_succ, Sem.run_pure]
 cases d3 <;> first
  | exact absurd rfl (hni _)
  | (simp only [Bool.false_eq_true, if_false, Sem.run_bind, hn, Result.andThen_ok, hroom, Bool.not_false, if_true, s2.run_info, false_or, hov2, hfit, run_choose, Question.forced, run_askRoom]
     rw [hos { w with drawn := w.drawn + 1 } rfl]
     simp only [Result.andThen_ok]
     rw [hcs { w with drawn := w.drawn + 1 } rfl]
     simp only [Result.andThen_ok, hz]
     rfl)

theorem row_base {id gen sz len : Nat} {x : Value} (hx : Ra φ w M (.row id gen sz 0 len) x) :
  (∃ a, len = 0 ∧ x = .slice a 0 0) ∨ ∃ b c, φ id gen = some b ∧ len ≤ c ∧ c * sz ≤ bsize w b ∧ x = .slice (some ⟨b, 0, none⟩) len c := by
 cases hx with
 | row0 _ _ _ _ a => exact .inl ⟨a, rfl, rfl⟩
 | row _ _ _ _ _ b c h1 h2 h3 => exact .inr ⟨b, c, h1, h2, by simpa using h3, by simp⟩

theorem cat_holds {os cs zs : Array Value} {f g : Nat → Nat → AV} {len n sz E gen : Nat} (hos : os.size = len * sz) (hcs : cs.size = n * sz) (hz0 : sz ≠ 0)
  (o1 : ∀ i j, i < len → j < sz → (os.getD (i * sz + j) undef).oneCell' = true) (o2 : ∀ i j, i < len → j < sz → Ra φ w M (f i j) (os.getD (i * sz + j) undef))
  (c1 : ∀ i j, i < n → j < sz → (cs.getD (i * sz + j) undef).oneCell' = true) (c2 : ∀ i j, i < n → j < sz → Ra φ w M (g i j) (cs.getD (i * sz + j) undef)) :
  Holds φ w M ⟨E, gen, sz, len + n, catF f g len⟩ (os ++ cs ++ zs) := by
 have get : ∀ i j, i < len + n → j < sz → (os ++ cs ++ zs).getD (i * sz + j) undef = if i < len then os.getD (i * sz + j) undef else cs.getD ((i - len) * sz + j) undef := by
  intro i j hi hj
  have hlt := row_lt hi hj
  rw [Nat.add_mul] at hlt
  by_cases h : i < len
  ·have := row_lt h hj
   rw [if_pos h]
   simp only [Array.getD_eq_getD_getElem?]
   rw [Array.getElem?_append_left (by simp; omega), Array.getElem?_append_left (by omega)]
  ·rw [if_neg h]
   have h1 : len * sz ≤ i * sz := Nat.mul_le_mul_right _ (by omega)
   have h2 : (i - len) * sz = i * sz - len * sz := Nat.sub_mul ..
   simp only [Array.getD_eq_getD_getElem?]
   rw [Array.getElem?_append_left (by simp; omega), Array.getElem?_append_right (by omega)]
   rw [show i * sz + j - os.size = (i - len) * sz + j by omega]
 have catf : ∀ i j, catF f g len i j = if i < len then f i j else g (i - len) j := by
  intro i j
  simp only [catF]
  by_cases h : i < len
  ·rw [if_pos h, show Nat.ble (i + 1) len = true from Nat.ble_eq_true_of_le h]; rfl
  ·rw [if_neg h]
   cases hb : Nat.ble (i + 1) len with
   | true => exact absurd (Nat.le_of_ble_eq_true hb) h
   | false => rfl
 refine ⟨⟨hz0, ?_⟩, fun i j hi hj => ?_, fun i j hi hj => ?_⟩
 ·show (len + n) * sz ≤ _
  simp only [Array.size_append, hos, hcs, Nat.add_mul]; omega
 ·show ((os ++ cs ++ zs).getD (i * sz + j) undef).oneCell' = true
  rw [get i j hi hj]
  split
  ·rename_i h; exact o1 i j h hj
  ·have hi' : i < len + n := hi
   exact c1 _ j (by omega) hj
 ·show Ra φ w M (catF f g len i j) ((os ++ cs ++ zs).getD (i * sz + j) undef)
  rw [get i j hi hj, catf]
  by_cases h : i < len
  ·rw [if_pos h, if_pos h]; exact o2 i j h hj
  ·have hi' : i < len + n := hi
   rw [if_neg h, if_neg h]; exact c2 _ j (by omega) hj

theorem Mem.regen (h : Mem C φ M H U w) {id : Nat} {o o' : AO} (ho : H id = some o) (hn : o'.n = 0) (hg : o'.gen = o.gen + 1) : Mem C φ M (updF H id o') U w := by
 have hnone : φ id o'.gen = none := by
  cases hc : φ id o'.gen with
  | none => rfl
  | some b => have := h.heap.last _ _ _ _ ho hc; omega
 refine { heap := { own := ?_, inj := ?_, last := ?_, mlt := h.heap.mlt }, used := h.used, dom := ?_, os := h.os, tape := h.tape, output := h.output, size := h.size, frame := h.frame, fresh := ?_, reads := h.reads, keeps := h.keeps, sizes := h.sizes, nlt := h.nlt, far := h.far }
 ·intro id' o1 ho1
  by_cases he : id' = id
  ·subst he; rw [updF_same] at ho1; obtain rfl := Option.some.inj ho1; exact .inl ⟨hn, .inl hnone⟩
  ·rw [updF_ne _ _ he] at ho1; exact h.heap.own id' o1 ho1
 ·intro id1 id2 o1 o2 b h1 h2 h3 h4
  by_cases e1 : id1 = id
  ·subst e1; rw [updF_same] at h1; obtain rfl := Option.some.inj h1; rw [hnone] at h3; cases h3
  ·by_cases e2 : id2 = id
   ·subst e2; rw [updF_same] at h2; obtain rfl := Option.some.inj h2; rw [hnone] at h4; cases h4
   ·rw [updF_ne _ _ e1] at h1; rw [updF_ne _ _ e2] at h2; exact h.heap.inj _ _ _ _ _ h1 h2 h3 h4
 ·intro id' o1 g b ho1 hgb
  by_cases he : id' = id
  ·subst he; rw [updF_same] at ho1; obtain rfl := Option.some.inj ho1
   have := h.heap.last _ _ _ _ ho hgb; omega
  ·rw [updF_ne _ _ he] at ho1; exact h.heap.last _ _ _ _ ho1 hgb
 ·intro id' o1 ho1
  by_cases he : id' = id
  ·rw [he]; exact h.dom _ _ ho
  ·rw [updF_ne _ _ he] at ho1; exact h.dom _ _ ho1
 ·intro id' o1 b ho1 hb
  by_cases he : id' = id
  ·subst he; rw [updF_same] at ho1; obtain rfl := Option.some.inj ho1; rw [hnone] at hb; cases hb
  ·rw [updF_ne _ _ he] at ho1; exact h.fresh _ _ _ ho1 hb

theorem opAppend_does (hT : T.ok P = true) (hm : Mem C φ M H U w) {sT xT ty : TypeId} {s x : AV} {vs vx : Value} {d : Nat} {r : Res} (h : opAppend T sT xT s x H d = some r) (hd : r.eff.fits U)
  (hs : Ra φ w M s vs) (hx : Ra φ w M x vx) : Does P C φ M H U w (Builtin.append_ #[sT, xT] ty #[vs, vx]) r := by
 unfold opAppend at h
 split at h
 ·rename_i E _ _ _ xi hti hxi
  obtain ⟨dd, i1, s1⟩ := Tab.info hT hti
  obtain rfl := s1.desc_slice
  obtain ⟨d3, i3, s3⟩ := Tab.info hT hxi
  split at h
  ·rename_i ei hei
   obtain ⟨d2, i2, s2⟩ := Tab.info hT hei
   cases hb : (isIntK xi.kind || Nat.beq ei.bytes 0 || Nat.beq ei.size 0) with
   | true => rw [hb] at h; simp at h
   | false =>
     rw [hb] at h
     simp only [Bool.or_eq_false_iff, cond_false] at hb h
     have hby : ei.bytes ≠ 0 := fun e => by rw [e] at hb; simp at hb
     split at h
     ·rename_i n g p hsrc
      split at h
      ·-- append to nil
       obtain rfl := Option.some.inj h
       rintro ⟨hp, hlim⟩
       cases hs with | nilS =>
       obtain ⟨hn, cs, hcs, hsz, c1, c2⟩ := srcOf_sound hm hsrc hp hx
       by_cases hn0 : n = 0
       ·subst hn0
        have hroom := run_append_room (ty := ty) s1 s2 s3 hb.1.1 (base := none) (len := 0) (cap := 0) hn (hcs w rfl) (by omega)
        exact ⟨_, w, φ, hroom, fun _ _ _ h => h, fun _ _ => rfl, fun _ => Nat.le_refl _, hm.void hd rfl, .row0 _ _ _ _ _⟩
       ·obtain ⟨k, zs, newCap, hrun, hcap, hzs⟩ := run_append_grow (ty := ty) s1 s2 s3 hb.1.1 (base := none) (len := 0) (cap := 0) (os := #[]) hn hcs (fun _ _ => rfl) (by omega) hby (by simpa using hlim)
        have hh := cat_holds (φ := φ) (w := w) (M := M) (os := #[]) (cs := cs) (zs := zs) (f := fun _ _ => .nilS) (g := g) (len := 0) (n := n) (sz := ei.size) (E := E) (gen := 0) (by simp) hsz (fun e => by rw [e] at hb; simp at hb) (fun i j hi => absurd hi (by omega)) (fun i j hi => absurd hi (by omega)) c1 c2
        have hh' : Holds φ w M ⟨E, 0, ei.size, n, g⟩ (#[] ++ cs ++ zs) := by
         obtain ⟨h1, h2, h3⟩ := hh
         refine ⟨⟨h1.1, by simpa using h1.2⟩, fun i j hi hj => h2 i j (by simpa using hi) hj, fun i j hi hj => ?_⟩
         exact h3 i j (by simpa using hi) hj
        obtain ⟨φ', p1, p2, p3, p4, p5⟩ := new_does (o := ⟨E, 0, ei.size, n, g⟩) hm hd k (arr := #[] ++ cs ++ zs) (fz := (0, 0)) (.zero _) hh'
        refine ⟨_, _, φ', hrun, p1, p3, p4, p5, ?_⟩
        have := Ra.row (φ := φ') (w := { w with heap := w.heap.push (.cells (#[] ++ cs ++ zs) E (0, 0)), drawn := k }) (M := M) d 0 ei.size 0 n w.heap.size newCap p2 (by omega) (by
         have : newCap * ei.size = n * ei.size + (newCap - n) * ei.size := by rw [← Nat.add_mul]; congr 1; omega
         simp [bsize, hsz, hzs]; omega)
        simpa using this
      ·rename_i id gen sz off len
       split at h
       ·rename_i o ho
        obtain rfl := Option.some.inj h
        rintro ⟨hp, rfl, rfl, hosz, rfl, rfl, hlen, hlim⟩
        obtain ⟨hn, cs, hcs, hsz, c1, c2⟩ := srcOf_sound hm hsrc hp hx
        obtain ⟨_, os, hos, hosize, o1, o2⟩ := srcOf_sound (ei := ei) (x := .row id o.gen ei.size 0 len) (n := len) (g := fun i j => o.f (0 + i) j) (p := o.gen = o.gen ∧ ei.size = o.sz ∧ o.sz = ei.size ∧ 0 + len ≤ o.n) hm (by simp only [srcOf, ho]) ⟨rfl, hosz.symm, hosz, by omega⟩ hs
        simp only [Nat.zero_add] at o2
        have grow : ∀ (base : Option Addr) (cap : Nat), vs = .slice base len cap → ¬ len + n ≤ cap → ∃ x w' φ', (Builtin.append_ #[sT, xT] ty #[vs, vx]).run P w = .ok x w' ∧ (∀ i g b, φ i g = some b → φ' i g = some b) ∧ (∀ b, M b → w'.heap[b]? = w.heap[b]?) ∧ (∀ b, bsize w b ≤ bsize w' b) ∧
          Mem C φ' M (updF H id ⟨o.E, o.gen + 1, ei.size, len + n, catF o.f g len⟩) U w' ∧ Ra φ' w' M (.row id (o.gen + 1) ei.size 0 (len + n)) x := by
         intro base cap hv hroom
         subst hv
         obtain ⟨k, zs, newCap, hrun, hcap, hzs⟩ := run_append_grow (ty := ty) s1 s2 s3 hb.1.1 (base := base) (len := len) (cap := cap) (os := os) hn hcs hos hroom hby hlim
         have hh := cat_holds (φ := φ) (w := w) (M := M) (os := os) (cs := cs) (zs := zs) (E := o.E) (gen := o.gen + 1) hosize hsz (fun e => by rw [e] at hb; simp at hb) o1 o2 c1 c2
         have hmv := hm.move ho k (arr := os ++ cs ++ zs) (fz := (0, 0)) (.zero _) (o' := ⟨o.E, o.gen + 1, ei.size, len + n, catF o.f g len⟩) rfl hh
         refine ⟨_, _, _, hrun, nameIt_le ?_, fun b hb => alloc_get w _ _ (hm.heap.mlt b hb), alloc_bsize w _ _, hmv, ?_⟩
         ·cases hc : φ id (o.gen + 1) with
          | none => rfl
          | some b => have := hm.heap.last _ _ _ _ ho hc; omega
         ·have := Ra.row (φ := nameIt φ id (o.gen + 1) w.heap.size) (w := { w with heap := w.heap.push (.cells (os ++ cs ++ zs) o.E (0, 0)), drawn := k }) (M := M) id (o.gen + 1) ei.size 0 (len + n) w.heap.size newCap (nameIt_same _ _ _ _) hcap (by
           have : newCap * ei.size = len * ei.size + n * ei.size + (newCap - (len + n)) * ei.size := by rw [← Nat.add_mul, ← Nat.add_mul]; congr 1; omega
           simp [bsize, hsz, hzs, hosize]; omega)
          simpa using this
        rcases row_base hs with ⟨a, rfl, hv⟩ | ⟨b, c, hφ, hlc, hbs, hv⟩
        ·by_cases hn0 : n = 0
         ·subst hn0
          subst hv
          have hroom := run_append_room (ty := ty) s1 s2 s3 hb.1.1 (base := a) (len := 0) (cap := 0) hn (hcs w rfl) (by omega)
          have hc0 : cs.toList = [] := by
           have : cs.size = 0 := by simpa using hsz
           exact List.eq_nil_of_length_eq_zero (by simpa using this)
          refine ⟨.slice a 0 0, w, φ, ?_, fun _ _ _ h => h, fun _ _ => rfl, fun _ => Nat.le_refl _, hm.regen ho rfl rfl, .row0 _ _ _ _ _⟩
          rw [hroom]
          cases a with
          | none => rfl
          | some ad => simp only [hc0, storeCells, Sem.run_pure, Result.andThen_ok]
         ·exact grow a 0 hv (by omega)
        ·by_cases hroom : len + n ≤ c
         ·subst hv
          obtain ⟨b', arr, fz, h1, h2, h3, h4, h5, h6, h7⟩ := (hm.heap.own id o ho).resolve_left (fun h0 => h0.2.elim (fun e => by rw [e] at hφ; cases hφ) (fun e => by have h9 := e.1; rw [hosz] at h9; rw [h9] at hb; simp at hb))
          rw [hφ] at h1; obtain rfl := Option.some.inj h1
          obtain ⟨h40, h4⟩ := h4
          rw [hosz] at h4 h6 h7
          rw [bsize_at h2] at hbs
          have hfits : (len + n) * ei.size ≤ arr.size := Nat.le_trans (Nat.mul_le_mul_right _ hroom) hbs
          rw [Nat.add_mul] at hfits
          have hr := run_append_room (ty := ty) s1 s2 s3 hb.1.1 (base := some ⟨b, 0, none⟩) (len := len) (cap := c) hn (hcs w rfl) hroom
          obtain ⟨arr', hrun, hsa, hget⟩ := run_store_row (P := P) b (0 + len * ei.size) o.E fz cs.toList 0 arr w h2 h3.out (by simp [hsz]; omega) (fun v hv => by
           obtain ⟨k, hk, rfl⟩ := List.getElem_of_mem hv
           have hk' : k < cs.size := by simpa using hk
           have h0 : 0 < ei.size := by
            rcases Nat.eq_zero_or_pos ei.size with h | h
            ·rw [h, Nat.mul_zero] at hsz; omega
            ·exact h
           have := c1 (k / ei.size) (k % ei.size) ((Nat.div_lt_iff_lt_mul h0).mpr (by omega)) (Nat.mod_lt _ h0)
           rw [Nat.div_add_mod'] at this
           simpa [Array.getD_eq_getD_getElem?, hk'] using this)
          have hD : ∀ k, arr'.getD k undef = if len * ei.size ≤ k ∧ k < len * ei.size + n * ei.size then cs.getD (k - len * ei.size) undef else arr.getD k undef := by
           intro k
           rw [Array.getD_eq_getD_getElem?, hget k]
           simp only [Nat.add_zero, Nat.zero_add, Array.length_toList, hsz]
           split
           ·rw [Array.getD_eq_getD_getElem?]; simp
           ·rw [Array.getD_eq_getD_getElem?]
          have hsplit : ∀ i j, i < len + n → j < ei.size → (i < len ∧ ¬ (len * ei.size ≤ i * ei.size + j ∧ i * ei.size + j < len * ei.size + n * ei.size)) ∨
            (¬ i < len ∧ (len * ei.size ≤ i * ei.size + j ∧ i * ei.size + j < len * ei.size + n * ei.size) ∧ i * ei.size + j - len * ei.size = (i - len) * ei.size + j) := by
           intro i j hi hj
           have hlt := row_lt hi hj
           rw [Nat.add_mul] at hlt
           by_cases h : i < len
           ·have := row_lt h hj; exact .inl ⟨h, by omega⟩
           ·have h1 : len * ei.size ≤ i * ei.size := Nat.mul_le_mul_right _ (by omega)
            have h2 : (i - len) * ei.size = i * ei.size - len * ei.size := Nat.sub_mul ..
            exact .inr ⟨h, by omega, by omega⟩
          have catf : ∀ i j, catF o.f g len i j = if i < len then o.f i j else g (i - len) j := by
           intro i j
           simp only [catF]
           by_cases h : i < len
           ·rw [if_pos h, show Nat.ble (i + 1) len = true from Nat.ble_eq_true_of_le h]; rfl
           ·rw [if_neg h]
            cases hb : Nat.ble (i + 1) len with
            | true => exact absurd (Nat.le_of_ble_eq_true hb) h
            | false => rfl
          have hup := hm.upd ho hφ h2 hsa (o' := ⟨o.E, o.gen + 1, ei.size, len + n, catF o.f g len⟩) rfl (.inr rfl) ⟨⟨fun e => by rw [show ei.size = 0 from e] at hb; simp at hb, by show (len + n) * ei.size ≤ arr'.size; rw [Nat.add_mul]; omega⟩, fun i j hi hj => by
            show (arr'.getD (i * ei.size + j) undef).oneCell' = true
            have hj' : j < ei.size := hj
            have hi' : i < len + n := hi
            rw [hD]
            rcases hsplit i j hi' hj' with ⟨g1, g2⟩ | ⟨g1, g2, g3⟩
            ·rw [if_neg g2]; exact h6 i j (by omega) hj'
            ·rw [if_pos g2, g3]; exact c1 _ j (by omega) hj', fun i j hi hj => by
            show Ra φ w M (catF o.f g len i j) (arr'.getD (i * ei.size + j) undef)
            have hj' : j < ei.size := hj
            have hi' : i < len + n := hi
            rw [hD, catf]
            rcases hsplit i j hi' hj' with ⟨g1, g2⟩ | ⟨g1, g2, g3⟩
            ·rw [if_neg g2, if_pos g1]; exact h7 i j (by omega) hj'
            ·rw [if_pos g2, g3, if_neg g1]; exact c2 _ j (by omega) hj'⟩
          refine ⟨.slice (some ⟨b, 0, none⟩) (len + n) c, _, _, ?_, ?_, fun k hk => by rw [putBlk_get h2, if_neg (fun e : k = b => h5 (e ▸ hk))], fun k => Nat.le_of_eq (bsize_put h2 hsa k).symm, hup, ?_⟩
          ·rw [hr]
           simp only [addr_add]
           rw [hrun]
           rfl
          ·intro i' k c' hc
           simp only [nameIt]
           by_cases he : i' = id ∧ k = o.gen + 1
           ·obtain ⟨rfl, rfl⟩ := he
            have := hm.heap.last _ _ _ _ ho hc; omega
           ·rw [if_neg he]; exact hc
          ·have := Ra.row (φ := nameIt φ id (o.gen + 1) b) (w := putBlk w b (.cells arr' o.E fz)) (M := M) id (o.gen + 1) ei.size 0 (len + n) b c (nameIt_same _ _ _ _) hroom (by
            rw [bsize_put h2 hsa, bsize_at h2]; simpa using hbs)
           simpa using this
         ·exact grow (some ⟨b, 0, none⟩) c hv hroom
       ·simp at h
      ·simp at h
     ·simp at h
  ·simp at h
 ·simp at h

end

section
variable {P : Program} {C : Came} {φ : Names} {M : Blocks} {H : Heap} {U : List Nat} {w : World} {T : Tab}

theorem isU8_inv {v : AV} (h : v.isU8 = true) : ∃ n, v = .pv (.int .u8 n) := by
 unfold AV.isU8 at h
 split at h
 ·exact ⟨_, rfl⟩
 ·simp at h

theorem bytes_run {a : Addr} {len cap : Nat} (ns : Nat → Int) (h : (loadCells a len).run P w = .ok ((List.range len).map fun i => Value.int .u8 (ns i)).toArray w) :
  (Conv.bytesToString (.slice (some a) len cap)).run P w = .ok (.string ⟨((List.range len).map fun i => UInt8.ofNat (ns i).toNat).toArray⟩) w := by
 have key : ∀ (l : List Int) (r : ByteArray), l.foldl (fun r n => r.push (UInt8.ofNat n.toNat)) r = ⟨r.data ++ (l.map fun n => UInt8.ofNat n.toNat).toArray⟩ := by
  intro l
  induction l with
  | nil => intro r; simp
  | cons b l ih =>
    intro r
    simp only [List.foldl_cons]
    rw [ih]
    simp [ByteArray.push]
 have := run_bytesToString (P := P) w a len cap ((List.range len).map ns) (by rw [h]; simp)
 rw [this, key]
 congr 2
 apply ByteArray.ext
 simp

theorem opStrOf_pure (hT : T.ok P = true) (hm : Mem C φ M H U w) {src dst : TypeId} {x : AV} {vx : Value} {r : Res} (h : opStrOf T src dst x H = some r) (hx : Ra φ w M x vx) :
  Pure P φ M w (convert src dst vx) r := by
 unfold opStrOf at h
 split at h
 ·rename_i E _ _ _ _ _ _ hs hd
  obtain ⟨d1, i1, s1⟩ := Tab.info hT hs
  obtain rfl := s1.desc_slice
  obtain ⟨d2, i2, s2⟩ := Tab.info hT hd
  obtain rfl := s2.desc_str
  split at h
  ·rename_i hE
   obtain ⟨d3, i3, s3⟩ := Tab.info hT hE
   obtain rfl := s3.desc_int
   have hrun : ∀ a l c, (convert src dst (.slice a l c)).run P w = (Conv.bytesToString (.slice a l c)).run P w := fun a l c => run_convert_bytes_string w src dst E a l c s1.und s3.und s2.und
   have zero : ∀ a c, (Conv.bytesToString (.slice a 0 c)).run P w = .ok (.string ⟨([] : List UInt8).toArray⟩) w := by
    intro a c
    cases a with
    | none => rfl
    | some a => exact bytes_run (fun _ => 0) rfl
   split at h
   ·cases hx with | nilS =>
    refine .ok h _ ?_ (.pv _ _ (.str []))
    rw [hrun, zero]
   ·rename_i E' sz n f
    refine .okIf h fun ⟨hsz, hu⟩ => ?_
    subst hsz
    have hrp := hx.rp
    cases hrp with
    | seq0 _ _ _ a c => exact ⟨_, by rw [hrun, zero], .pv _ _ (.str [])⟩
    | seq _ _ _ _ b o c g hM hnc hc h1c hr =>
      have hg : ∀ i, i < n → f i 0 = .int .u8 (intOf (g i 0)) ∧ g i 0 = .int .u8 (intOf (g i 0)) := fun i hi => by
       obtain ⟨k, hk⟩ := isU8_inv (hu i hi)
       have hk' : f i 0 = .int .u8 k := by injection hk
       have := hr i 0 hi (by omega)
       rw [hk'] at this
       generalize g i 0 = v at this
       cases this
       exact ⟨hk', rfl⟩
      have hld : (loadCells ⟨b, o, none⟩ n).run P w = .ok ((List.range n).map fun i => Value.int .u8 (intOf (g i 0))).toArray w := by
       rw [run_loadCells (a := ⟨b, o, none⟩) (n := n) (f := fun i => .int .u8 (intOf (g i 0))) (h := fun j hj => by
        rw [addr_add]; have := hc j 0 hj (by omega); rw [(hg j hj).2] at this; simpa using this)]
      refine ⟨_, by rw [hrun, bytes_run _ hld], ?_⟩
      have : (List.range n).map (fun i => UInt8.ofNat (intOf (g i 0)).toNat) = (List.range n).map fun i => (f i 0).byte := by
       apply List.map_congr_left
       intro i hi
       rw [(hg i (by simpa using hi)).1]; rfl
      rw [this]
      exact .pv _ _ (.str _)
   ·rename_i id gen sz off len
    split at h
    ·rename_i o ho
     refine .okIf h fun ⟨hgen, hsz, hs1, hle, hu⟩ => ?_
     subst hgen
     have zc : ∀ a c, len = 0 → ∃ x, (convert src dst (.slice a len c)).run P w = .ok x w ∧ Ra φ w M (.pv (.str ((List.range len).map fun i => (o.f (off + i) 0).byte))) x := by
      intro a c hl
      subst hl
      exact ⟨_, by rw [hrun, zero], .pv _ _ (.str [])⟩
     cases hx with
     | row0 _ _ _ _ a => exact zc a 0 rfl
     | row _ _ _ _ _ b c hφ hlc hbs =>
       by_cases hl : len = 0
       ·exact zc _ _ hl
       ·obtain ⟨b', arr, fz, h1, h2, h3, h4, h5, h6, h7⟩ := (hm.heap.own id o ho).resolve_left (fun h0 => by omega)
        rw [hφ] at h1; obtain rfl := Option.some.inj h1
        have ho1 : o.sz = 1 := by omega
        rw [ho1] at h4 h6 h7
        simp only [Nat.mul_one] at h4 h6 h7
        obtain ⟨g, hgd⟩ : ∃ g : Nat → Value, g = fun i => arr.getD (off + i) undef := ⟨_, rfl⟩
        have hg : ∀ i, i < len → o.f (off + i) 0 = .pv (.int .u8 (intOf (g i))) ∧ g i = .int .u8 (intOf (g i)) := fun i hi => by
         obtain ⟨k, hk⟩ := isU8_inv (hu i hi)
         have := h7 (off + i) 0 (by omega) (by omega)
         rw [hk] at this
         have hv := this.int
         have hgi : g i = .int .u8 k := by rw [hgd]; simpa using hv
         rw [hgi]
         exact ⟨hk, rfl⟩
        have hld : (loadCells ⟨b, off * sz, none⟩ len).run P w = .ok ((List.range len).map fun i => Value.int .u8 (intOf (g i))).toArray w := by
         rw [run_loadCells (a := ⟨b, off * sz, none⟩) (n := len) (f := fun i => .int .u8 (intOf (g i))) (h := fun j hj => by
          rw [addr_add, ← (hg j hj).2, hgd, World.cell?_at h2, hs1, Nat.mul_one, Array.getElem?_eq_getElem (by omega)]
          simp [Array.getD_eq_getD_getElem?, show off + j < arr.size by omega])]
        refine ⟨_, by rw [hrun, bytes_run _ hld], ?_⟩
        have : (List.range len).map (fun i => UInt8.ofNat (intOf (g i)).toNat) = (List.range len).map fun i => (o.f (off + i) 0).byte := by
         apply List.map_congr_left
         intro i hi
         rw [(hg i (by simpa using hi)).1]; rfl
        rw [this]
        exact .pv _ _ (.str _)
    ·simp at h
   ·simp at h
  ·simp at h
 ·simp at h

theorem opBytesOf_does (hT : T.ok P = true) (hm : Mem C φ M H U w) {src dst : TypeId} {x : AV} {vx : Value} {d : Nat} {r : Res} (hd : d ∉ U) (h : opBytesOf T src dst x d = some r) (hx : Ra φ w M x vx) :
  Does P C φ M H U w (convert src dst vx) r := by
 unfold opBytesOf at h
 split at h
 ·rename_i _ _ _ E _ _ _ s hs hdt
  obtain ⟨d1, i1, s1⟩ := Tab.info hT hs
  obtain rfl := s1.desc_str
  obtain ⟨d2, i2, s2⟩ := Tab.info hT hdt
  obtain rfl := s2.desc_slice
  obtain rfl := hx.str
  split at h
  ·rename_i hE
   obtain ⟨d3, i3, s3⟩ := Tab.info hT hE
   obtain rfl := s3.desc_int
   obtain rfl := Option.some.inj h
   intro _
   have hss : (ByteArray.mk s.toArray).size = s.length := by simp [ByteArray.size]
   have hlen : s.length ≤ grownCap w s.length 0 E := by simp only [grownCap, Question.cut]; omega
   obtain ⟨row, hrow⟩ : ∃ row, row = bytesRow ⟨s.toArray⟩ (grownCap w s.length 0 E) := ⟨_, rfl⟩
   have hsize : row.size = grownCap w s.length 0 E := by rw [hrow]; simp [bytesRow, hss]; omega
   have hget : ∀ i, i < s.length → row.getD i undef = .int .u8 (s.getD i 0).toNat := fun i hi => by
    rw [hrow]
    simp [bytesRow, Array.getD_eq_getD_getElem?, Array.getElem?_append, hi, List.getD_eq_getElem?_getD]
   have hrun : (convert src dst (.string ⟨s.toArray⟩)).run P w = .ok (.slice (some ⟨w.heap.size, 0, none⟩) s.length (grownCap w s.length 0 E))
     { w with heap := w.heap.push (.cells row E (row.size, row.size + 1)), drawn := w.drawn + 1 } := by
    have := run_bytes_of_string (P := P) w src dst E ⟨s.toArray⟩ s1.und s2.und s3.und
    rw [hss] at this
    rw [this, ← hrow]
    rfl
   obtain ⟨φ', p1, p2, p3, p4, p5⟩ := new_does (o := ⟨E, 0, 1, s.length, fun i _ => .pv (.int .u8 (s.getD i 0).toNat)⟩) hm hd (w.drawn + 1) (arr := row) (fz := (row.size, row.size + 1)) (.inr (Nat.le_refl _))
    ⟨⟨show (1 : Nat) ≠ 0 by decide, by show s.length * 1 ≤ row.size; omega⟩, fun i j hi hj => by
      have hi' : i < s.length := hi
      have hj' : j < 1 := hj
      show (row.getD (i * 1 + j) undef).oneCell' = true
      rw [show i * 1 + j = i by omega, hget i hi']; rfl, fun i j hi hj => by
      have hi' : i < s.length := hi
      have hj' : j < 1 := hj
      show Ra φ w M (.pv (.int .u8 (s.getD i 0).toNat)) (row.getD (i * 1 + j) undef)
      rw [show i * 1 + j = i by omega, hget i hi']; exact .pv _ _ (.int _ _)⟩
   refine ⟨_, _, φ', hrun, p1, p3, p4, p5, ?_⟩
   have := Ra.row (φ := φ') (w := { w with heap := w.heap.push (.cells row E (row.size, row.size + 1)), drawn := w.drawn + 1 }) (M := M) d 0 1 0 s.length w.heap.size (grownCap w s.length 0 E) p2 hlen (by simp [bsize, hsize])
   simpa using this
  ·simp at h
 ·simp at h

end

def keyKind (T : Tab) (kt : TypeId) : Option Nat :=
 match T.get kt with
 | some ⟨.int .i64, _, _, _⟩ => some 0
 | some ⟨.str, _, _, _⟩ => some 1
 | _ => none
def keyFits : Nat → AV → Bool
 | 0, .pv (.int .i64 _) => true
 | 1, .pv (.str _) => true
 | _, _ => false
def isObj (g : Nat) (o : AO) : Bool := Nat.beq g o.gen && Nat.ble (g + 1) 2 && Nat.beq o.sz 0 && Nat.beq o.n 0
def isIter (o : AO) : Bool := Nat.beq o.gen 2 && Nat.beq o.sz 0 && Nat.beq o.n 0
def zeroOf (T : Tab) (et : TypeId) : Option AV :=
 match T.get et with
 | some ei => bif ei.kind.agg || Nat.beq ei.size 1 then some (valueOf ei ei.zero) else none
 | none => none
def pairF (a b : AV) : Nat → AV := fun i => bif Nat.beq i 0 then a else b
def okTup (ok : Bool) (v : AV) (b : Bool) : AV := bif ok then .tup 2 (pairF v (.pv (.bool b))) else v

def opMakeMap (T : Tab) (t : TypeId) (d : Nat) : Option Res :=
 match T.get t with
 | some ⟨.map kt _, _, _, _⟩ =>
   match keyKind T kt with
   | some g => some ⟨none, .obj d g, .new d ⟨0, g, 0, 0, fun _ _ => .nilS⟩⟩
   | none => none
 | _ => none

def iterF (m : AV) : Nat → Nat → AV := fun i j => bif Nat.beq j 1 then .pv (.bool false) else bif Nat.beq i 0 then m else .nilS
def opRange (T : Tab) (t : TypeId) (x : AV) (H : Heap) (d : Nat) : Option Res :=
 match T.get t, x with
 | some ⟨.map _ _, _, _, _⟩, .obj id g =>
   match H id with
   | some o => bif isObj g o then some ⟨none, .obj d 2, .new d ⟨o.E, 2, 0, 0, iterF (.obj id g)⟩⟩ else none
   | none => none
 | _, _ => none

def opLookup (T : Tab) (t : TypeId) (x key : AV) (ok : Bool) (H : Heap) : Option ((AV → Prop) → Prop) :=
 match T.get t with
 | some ⟨.map kt et, _, _, _⟩ =>
   match keyKind T kt, zeroOf T et with
   | some g0, some z =>
     match x with
     | .nilM => some fun κ => κ (okTup ok z false)
     | .obj id g =>
       match H id with
       | some o => bif isObj g o && Nat.beq g g0 && keyFits g key then
          some fun κ => (∀ i, i < o.E → o.f i 0 = key → κ (okTup ok (o.f i 1) true)) ∧ ((∀ i, i < o.E → o.f i 0 ≠ key) → κ (okTup ok z false)) else none
       | none => none
     | _ => none
   | _, _ => none
 | _ => none

def setV (f : Nat → Nat → AV) (n : Nat) (v : AV) : Nat → Nat → AV := fun i j => bif Nat.beq i n && Nat.beq j 1 then v else f i j
def pushV (f : Nat → Nat → AV) (n : Nat) (k v : AV) : Nat → Nat → AV := fun i j => bif Nat.beq i n then (bif Nat.beq j 0 then k else v) else f i j
def opMapUpd (T : Tab) (t : TypeId) (x key v : AV) (H : Heap) : Option ((Heap → Prop) → Prop) :=
 match T.get t with
 | some ⟨.map kt _, _, _, _⟩ =>
   match keyKind T kt with
   | some g0 =>
     match x with
     | .obj id g =>
       match H id with
       | some o => bif isObj g o && Nat.beq g g0 && keyFits g key then
          some fun κ => (∀ i, i < o.E → o.f i 0 = key → κ (updF H id { o with f := setV o.f i v })) ∧ ((∀ i, i < o.E → o.f i 0 ≠ key) → κ (updF H id ⟨o.E + 1, o.gen, 0, 0, pushV o.f o.E key v⟩)) else none
       | none => none
     | _ => none
   | none => none
 | _ => none

def tripF (a b c : AV) : Nat → AV := fun i => bif Nat.beq i 0 then a else bif Nat.beq i 1 then b else c
def seeIt (f : Nat → Nat → AV) (n : Nat) : Nat → Nat → AV := fun i j => bif Nat.beq j 1 && Nat.beq i n then .pv (.bool true) else bif Nat.beq i 1 && Nat.beq j 0 then .pv (.int .i64 n) else f i j
def opNext (x : AV) (H : Heap) : Option ((AV → Heap → Prop) → Prop) :=
 match x with
 | .obj id g =>
   match H id with
   | some o =>
     match o.f 0 0 with
     | .obj mid gm =>
       match H mid with
       | some m => bif Nat.beq g 2 && isIter o && isObj gm m then
          some fun κ => m.E = o.E ∧ (∀ i, i < o.E → o.f i 1 = .pv (.bool false) → κ (.tup 3 (tripF (.pv (.bool true)) (m.f i 0) (m.f i 1))) (updF H id { o with f := seeIt o.f i })) ∧
           ((∀ i, i < o.E → o.f i 1 = .pv (.bool true)) → κ (.tup 1 (fun _ => .pv (.bool false))) H) else none
       | none => none
     | _ => none
   | none => none
 | _ => none
def opEntry (x : AV) (H : Heap) : Option Res :=
 match x with
 | .obj id g =>
   match H id with
   | some o =>
     match o.f 0 0, o.f 1 0 with
     | .obj mid gm, .pv (.int .i64 k) =>
       match H mid with
       | some m => bif Nat.beq g 2 && isIter o && isObj gm m then okIf (m.E = o.E ∧ 0 ≤ k ∧ k < m.E) (.tup 2 (pairF (m.f k.toNat 0) (m.f k.toNat 1))) else none
       | none => none
     | _, _ => none
   | none => none
 | _ => none

def nilConst : Operand → Bool
 | .const (.map none) => true
 | .const .nilIface => true
 | .const .nilFunc => true
 | .const (.pointer none) => true
 | _ => false
def isNilA (k : TK) (v y : AV) : Option Bool :=
 match k, v, y with
 | .map _ _, .nilM, .nilM => some true
 | .map _ _, .obj _ 0, .nilM => some false
 | .map _ _, .obj _ 1, .nilM => some false
 | .iface, .pv .nilI, .pv .nilI => some true
 | .iface, .pv (.ifc _ _), .pv .nilI => some false
 | .func, .pv .nilF, .pv .nilF => some true
 | .func, .func .., .pv .nilF => some false
 | .ptr _, .pv .nilP, .pv .nilP => some true
 | .ptr _, .ptr .., .pv .nilP => some false
 | .ptr _, .rptr .., .pv .nilP => some false
 | _, _, _ => none
def opNil (T : Tab) (op : BinOp) (t : TypeId) (v y : AV) : Option Res :=
 match T.get t with
 | some ti =>
   match op, isNilA ti.kind v y with
   | .eql, some b => okRes (.pv (.bool b))
   | .neq, some b => okRes (.pv (.bool (!b)))
   | _, _ => none
 | none => none

def opMark (T : Tab) (s t : TypeId) (x : AV) (H : Heap) : Option AV :=
 match T.get t with
 | some ⟨.slice E, _, _, _⟩ =>
   match T.get E, x with
   | some ⟨.int .u8, _, _, _⟩, .row id gen sz off (len + 1) =>
     match H id with
     | some o => bif Nat.beq s t && Nat.beq gen o.gen && !Nat.beq o.sz 0 && Nat.ble 1 o.n then some (.row id gen sz off (len + 1)) else none
     | none => none
   | _, _ => none
 | _ => none
def isCon (T : Tab) (t : TypeId) : Bool :=
 match T.get t with
 | some ti => (match ti.kind with | .iface => false | _ => true)
 | none => false
def opAssert (T : Tab) (x : AV) (t : TypeId) : Option AV :=
 bif isCon T t then
  match x with
  | .pv (.ifc u p) => bif Nat.beq u t then some (.tup 2 (pairF (liftV p) (.pv (.bool true)))) else (zeroOf T t).map fun z => .tup 2 (pairF z (.pv (.bool false)))
  | .pv .nilI => (zeroOf T t).map fun z => .tup 2 (pairF z (.pv (.bool false)))
  | _ => none
 else none

section
variable {P : Program} {C : Came} {φ : Names} {M : Blocks} {H : Heap} {U : List Nat} {w : World} {T : Tab}

theorem beqN_ne {a b : Nat} (h : a ≠ b) : Nat.beq a b = false := by
 cases hc : Nat.beq a b with
 | true => exact absurd (Nat.eq_of_beq_eq_true hc) h
 | false => rfl
theorem beqN_self (a : Nat) : Nat.beq a a = true := Nat.beq_refl a
theorem setV_key (f : Nat → Nat → AV) (n : Nat) (v : AV) (i : Nat) : setV f n v i 0 = f i 0 := by unfold setV; cases Nat.beq i n <;> rfl
theorem setV_val (f : Nat → Nat → AV) (n : Nat) (v : AV) : setV f n v n 1 = v := by unfold setV; rw [beqN_self]; rfl
theorem setV_ne (f : Nat → Nat → AV) {n i : Nat} (v : AV) (h : i ≠ n) (j : Nat) : setV f n v i j = f i j := by unfold setV; rw [beqN_ne h]; rfl
theorem pushV_key (f : Nat → Nat → AV) (n : Nat) (k v : AV) : pushV f n k v n 0 = k := by unfold pushV; rw [beqN_self]; rfl
theorem pushV_val (f : Nat → Nat → AV) (n : Nat) (k v : AV) : pushV f n k v n 1 = v := by unfold pushV; rw [beqN_self]; rfl
theorem seeIt_map (f : Nat → Nat → AV) (n : Nat) : seeIt f n 0 0 = f 0 0 := rfl
theorem seeIt_last (f : Nat → Nat → AV) (n : Nat) : seeIt f n 1 0 = .pv (.int .i64 n) := rfl
theorem seeIt_same (f : Nat → Nat → AV) (n : Nat) : seeIt f n n 1 = .pv (.bool true) := by unfold seeIt; rw [beqN_self n]; rfl
theorem seeIt_ne (f : Nat → Nat → AV) {n i : Nat} (h : i ≠ n) : seeIt f n i 1 = f i 1 := by unfold seeIt; rw [beqN_ne h]; cases Nat.beq i 1 <;> rfl
def cellsB : Obj → Bool
 | .cells .. => true
 | _ => false
theorem bsize_obj {b : Nat} {B B' : Obj} (h : w.heap[b]? = some B) (h1 : cellsB B = false) (h2 : cellsB B' = false) (k : Nat) : bsize (putBlk w b B') k = bsize w k := by
 unfold bsize
 rw [putBlk_get h]
 by_cases hk : k = b
 ·subst hk; rw [if_pos rfl, h]
  cases B <;> cases B' <;> simp_all [cellsB]
 ·rw [if_neg hk]

theorem Ra.putO {b : Nat} {B B' : Obj} (h : w.heap[b]? = some B) (h1 : cellsB B = false) (h2 : cellsB B' = false) (hM : ¬ M b) {v : AV} {x : Value} (hr : Ra φ w M v x) : Ra φ (putBlk w b B') M v x :=
 hr.mono (fun _ _ _ h => h) (fun _ h => h) (fun k hk => by rw [putBlk_get h, if_neg (fun e : k = b => hM (e ▸ hk))]) (fun k => Nat.le_of_eq (bsize_obj h h1 h2 k).symm)

theorem Mem.obj (h : Mem C φ M H U w) {id : Nat} {o o' : AO} (ho : H id = some o) {b : Nat} (hφ : φ id o.gen = some b) {B B' : Obj} (hblk : w.heap[b]? = some B) (h1 : cellsB B = false) (h2 : cellsB B' = false) (hM : ¬ M b)
  (hg : o'.gen = o.gen) (hn : o'.n = 0) (hz : o'.sz = 0) (hO : ObjB φ w M o' B') : Mem C φ M (updF H id o') U (putBlk w b B') := by
 refine { heap := { own := ?_, inj := ?_, last := ?_, mlt := ?_ }, used := h.used, dom := ?_, os := h.os, tape := h.tape, output := h.output, size := by simpa [putBlk] using h.size, frame := ?_, fresh := ?_, reads := h.reads, keeps := h.keeps, sizes := fun k => Nat.le_trans (h.sizes k) (Nat.le_of_eq (bsize_obj hblk h1 h2 k).symm), nlt := fun i g c hc => by simpa [putBlk] using h.nlt i g c hc, far := h.far }
 ·intro id' o1 ho1
  by_cases he : id' = id
  ·subst he
   rw [updF_same] at ho1; obtain rfl := Option.some.inj ho1
   exact .inl ⟨hn, .inr ⟨hz, b, B', by rw [hg]; exact hφ, by rw [putBlk_get hblk, if_pos rfl], hM, hO.go (fun _ _ hx => hx.putO hblk h1 h2 hM)⟩⟩
  ·rw [updF_ne _ _ he] at ho1
   rcases h.heap.own id' o1 ho1 with h0 | ⟨b1, arr1, fz1, g1, g2, g3, g4, g5, g6, g7⟩
   ·exact .inl ⟨h0.1, ObjAt.or h0.2 (fun h => h) (fun _ h => h) (fun b1 hb1 _ _ => by rw [putBlk_get hblk, if_neg (fun e : b1 = b => he (h.heap.inj _ _ _ _ _ ho1 ho (e ▸ hb1) hφ))]) (fun _ _ _ h => h) (fun _ _ hx => hx.putO hblk h1 h2 hM)⟩
   ·refine .inr ⟨b1, arr1, fz1, g1, ?_, g3, g4, g5, g6, fun i j hi hj => (g7 i j hi hj).putO hblk h1 h2 hM⟩
    rw [putBlk_get hblk, if_neg]
    ·exact g2
    ·rintro rfl; exact he (h.heap.inj _ _ _ _ _ ho1 ho g1 hφ)
 ·intro id1 id2 o1 o2 b1 g1 g2 g3 g4
  have key : ∀ i u, updF H id o' i = some u → ∃ u', H i = some u' ∧ u'.gen = u.gen := fun i u hu => by
   by_cases he : i = id
   ·subst he; rw [updF_same] at hu; obtain rfl := Option.some.inj hu; exact ⟨o, ho, hg.symm⟩
   ·rw [updF_ne _ _ he] at hu; exact ⟨u, hu, rfl⟩
  obtain ⟨u1, k1, e1⟩ := key _ _ g1
  obtain ⟨u2, k2, e2⟩ := key _ _ g2
  rw [← e1] at g3; rw [← e2] at g4
  exact h.heap.inj _ _ _ _ _ k1 k2 g3 g4
 ·intro id' o1 g b1 ho1 hgb
  by_cases he : id' = id
  ·subst he
   rw [updF_same] at ho1; obtain rfl := Option.some.inj ho1
   rw [hg]; exact h.heap.last _ _ _ _ ho hgb
  ·rw [updF_ne _ _ he] at ho1; exact h.heap.last _ _ _ _ ho1 hgb
 ·intro b1 hb1; simpa [putBlk] using h.heap.mlt b1 hb1
 ·intro id' o1 ho1
  by_cases he : id' = id
  ·rw [he]; exact h.dom _ _ ho
  ·rw [updF_ne _ _ he] at ho1; exact h.dom _ _ ho1
 ·intro b1 hb1 hown
  rw [putBlk_get hblk, if_neg]
  ·exact h.frame b1 hb1 hown
  ·rintro rfl
   rcases h.fresh _ _ _ ho hφ with h8 | h8
   ·exact hown h8
   ·omega
 ·intro id' o1 b1 ho1 hb1
  by_cases he : id' = id
  ·subst he
   rw [updF_same] at ho1; obtain rfl := Option.some.inj ho1
   rw [hg] at hb1; exact h.fresh _ _ _ ho hb1
  ·rw [updF_ne _ _ he] at ho1; exact h.fresh _ _ _ ho1 hb1

theorem Mem.newO (h : Mem C φ M H U w) {id : Nat} {o : AO} (hid : id ∉ U) (n : Nat) {B : Obj} (hn : o.n = 0) (hz : o.sz = 0) (hO : ObjB φ w M o B) :
  Mem C (nameIt φ id o.gen w.heap.size) M (updF H id o) (id :: U) { w with heap := w.heap.push B, drawn := n } := by
 have hnone : ∀ g, φ id g = none := fun g => by
  cases hc : φ id g with
  | none => rfl
  | some b => exact absurd (h.used id g b hc) hid
 have hle := nameIt_le (b := w.heap.size) (hnone o.gen)
 have hname : ∀ id' g, id' ≠ id → nameIt φ id o.gen w.heap.size id' g = φ id' g := fun id' g hne => by
  simp only [nameIt]; rw [if_neg (fun e => hne e.1)]
 have hbl : ∀ id' o' b, H id' = some o' → φ id' o'.gen = some b → b < w.heap.size := fun id' o' b _ h2 => (h.nlt _ _ _ h2).1
 refine { heap := { own := ?_, inj := ?_, last := ?_, mlt := ?_ }, used := ?_, dom := ?_, os := h.os, tape := h.tape, output := h.output, size := ?_, frame := ?_, fresh := ?_, reads := h.reads, keeps := h.keeps, sizes := fun b => Nat.le_trans (h.sizes b) (alloc_bsize w _ _ b), nlt := nameIt_lt h.nlt ⟨by simp, fun hno => absurd (h.far.2 _ hno) (Nat.not_lt.mpr h.size)⟩ (by simp), far := h.far }
 ·intro id' o' ho'
  by_cases he : id' = id
  ·subst he
   rw [updF_same] at ho'
   obtain rfl := Option.some.inj ho'
   exact .inl ⟨hn, .inr ⟨hz, w.heap.size, B, nameIt_same _ _ _ _, by simp, fun hM => Nat.lt_irrefl _ (h.heap.mlt _ hM), hO.go (fun _ _ hx => hx.alloc hle h.heap.mlt _ _)⟩⟩
  ·rw [updF_ne _ _ he] at ho'
   rcases h.heap.own id' o' ho' with h0 | ⟨b, arr', fz', h1, h2, h3, h4, h5, h6, h7⟩
   ·exact .inl ⟨h0.1, by rw [hname _ _ he]; exact ObjAt.or h0.2 (fun h => h) (fun _ h => h) (fun b _ hb _ => alloc_get w _ _ hb) (fun _ _ _ h => h) (fun _ _ hx => hx.alloc hle h.heap.mlt _ _)⟩
   ·refine .inr ⟨b, arr', fz', hle _ _ _ h1, ?_, h3, h4, h5, h6, fun i j hi hj => (h7 i j hi hj).alloc hle h.heap.mlt _ _⟩
    rw [alloc_get w _ _ (hbl id' o' b ho' h1)]; exact h2
 ·intro id1 id2 o1 o2 b h1 h2 h3 h4
  by_cases e1 : id1 = id <;> by_cases e2 : id2 = id
  ·rw [e1, e2]
  ·subst e1
   rw [updF_same] at h1; obtain rfl := Option.some.inj h1
   rw [updF_ne _ _ e2] at h2
   rw [nameIt_same] at h3; obtain rfl := Option.some.inj h3
   rw [hname _ _ e2] at h4
   exact absurd (hbl _ _ _ h2 h4) (Nat.lt_irrefl _)
  ·subst e2
   rw [updF_same] at h2; obtain rfl := Option.some.inj h2
   rw [updF_ne _ _ e1] at h1
   rw [nameIt_same] at h4; obtain rfl := Option.some.inj h4
   rw [hname _ _ e1] at h3
   exact absurd (hbl _ _ _ h1 h3) (Nat.lt_irrefl _)
  ·rw [updF_ne _ _ e1] at h1; rw [updF_ne _ _ e2] at h2
   rw [hname _ _ e1] at h3; rw [hname _ _ e2] at h4
   exact h.heap.inj _ _ _ _ _ h1 h2 h3 h4
 ·intro id' o' g b ho' hg
  by_cases he : id' = id
  ·subst he
   rw [updF_same] at ho'; obtain rfl := Option.some.inj ho'
   simp only [nameIt] at hg
   by_cases hgg : g = o.gen
   ·omega
   ·rw [if_neg (fun e => hgg e.2), hnone] at hg; cases hg
  ·rw [updF_ne _ _ he] at ho'; rw [hname _ _ he] at hg
   exact h.heap.last _ _ _ _ ho' hg
 ·intro b hb; simp; have := h.heap.mlt b hb; omega
 ·intro id' g b hb
  by_cases he : id' = id
  ·rw [he]; exact List.mem_cons_self ..
  ·rw [hname _ _ he] at hb; exact List.mem_cons_of_mem _ (h.used _ _ _ hb)
 ·intro id' o' ho'
  by_cases he : id' = id
  ·rw [he]; exact List.mem_cons_self ..
  ·rw [updF_ne _ _ he] at ho'; exact List.mem_cons_of_mem _ (h.dom _ _ ho')
 ·simp; have := h.size; omega
 ·intro b hb hown
  rw [alloc_get w _ _ (by have := h.size; omega)]
  exact h.frame b hb hown
 ·intro id' o' b ho' hb
  by_cases he : id' = id
  ·subst he
   rw [updF_same] at ho'; obtain rfl := Option.some.inj ho'
   rw [nameIt_same] at hb; obtain rfl := Option.some.inj hb
   exact .inr h.size
  ·rw [updF_ne _ _ he] at ho'; rw [hname _ _ he] at hb
   exact h.fresh _ _ _ ho' hb

theorem newO_does (hm : Mem C φ M H U w) {id : Nat} {o : AO} (hid : id ∉ U) (n : Nat) {B : Obj} (hn : o.n = 0) (hz : o.sz = 0) (hO : ObjB φ w M o B) :
  ∃ φ', (∀ i g b, φ i g = some b → φ' i g = some b) ∧ φ' id o.gen = some w.heap.size ∧ (∀ b, M b → ({ w with heap := w.heap.push B, drawn := n } : World).heap[b]? = w.heap[b]?) ∧
   (∀ b, bsize w b ≤ bsize { w with heap := w.heap.push B, drawn := n } b) ∧ Mem C φ' M (updF H id o) (id :: U) { w with heap := w.heap.push B, drawn := n } := by
 refine ⟨nameIt φ id o.gen w.heap.size, nameIt_le ?_, nameIt_same _ _ _ _, fun b hb => alloc_get w _ _ (hm.heap.mlt b hb), alloc_bsize w _ _, hm.newO hid n hn hz hO⟩
 cases hc : φ id o.gen with
 | none => rfl
 | some b => exact absurd (hm.used id _ b hc) hid

theorem TIs.desc_map {t : TypeId} {d : TypeDesc} {i : TypeInfo} {K E : TypeId} {a b c} (s : TIs P t ⟨.map K E, a, b, c⟩ d i) : d = .map K E := by
 have := s.kind; cases d <;> simp_all [TK.is]
theorem keyKind_out (hT : T.ok P = true) {kt : TypeId} {g : Nat} (h : keyKind T kt = some g) : (g = 0 ∧ ∃ k, P.underlying kt = some (.int k)) ∨ (g = 1 ∧ P.underlying kt = some .string) := by
 unfold keyKind at h
 split at h
 ·rename_i hti
  obtain ⟨d, i, s⟩ := Tab.info hT hti
  have := s.kind
  obtain rfl := Option.some.inj h
  refine .inl ⟨rfl, .i64, ?_⟩
  rw [s.und]; cases d <;> simp_all [TK.is]
 ·rename_i hti
  obtain ⟨d, i, s⟩ := Tab.info hT hti
  have := s.kind
  obtain rfl := Option.some.inj h
  refine .inr ⟨rfl, ?_⟩
  rw [s.und]; cases d <;> simp_all [TK.is]
 ·cases h

theorem opMakeMap_does (hT : T.ok P = true) (hm : Mem C φ M H U w) {t : TypeId} {d : Nat} {r : Res} (hd : d ∉ U) (h : opMakeMap T t d = some r) : Does P C φ M H U w (Instr.makeMap t none) r := by
 unfold opMakeMap at h
 split at h
 ·split at h
  ·rename_i g hg
   obtain rfl := Option.some.inj h
   intro _
   have hg2 : g < 2 := by rcases keyKind_out hT hg with ⟨h, _⟩ | ⟨h, _⟩ <;> omega
   obtain ⟨φ', p1, p2, p3, p4, p5⟩ := newO_does (o := ⟨0, g, 0, 0, fun _ _ => .nilS⟩) hm hd w.drawn (B := .map #[] 0) rfl rfl ⟨hg2, rfl, rfl, fun i j hi => absurd hi (Nat.not_lt_zero _), fun i e he => by simp at he⟩
   refine ⟨.map (some w.heap.size), _, φ', ?_, p1, p3, p4, p5, .mp _ _ _ hg2 p2⟩
   rfl
  ·cases h
 ·cases h

theorem Mem.objAt (hm : Mem C φ M H U w) {id : Nat} {o : AO} (ho : H id = some o) {b : Nat} (hφ : φ id o.gen = some b) (hz : o.sz = 0) : ∃ B, w.heap[b]? = some B ∧ ¬ M b ∧ ObjB φ w M o B := by
 rcases hm.heap.own id o ho with ⟨_, h0 | ⟨_, c, B, h1, h2, h3, h4⟩⟩ | ⟨b', arr, fz, _, _, _, g4, _⟩
 ·rw [h0] at hφ; cases hφ
 ·rw [h1] at hφ; obtain rfl := Option.some.inj hφ; exact ⟨B, h2, h3, h4⟩
 ·exact absurd hz g4.1
theorem isObj_out {g : Nat} {o : AO} (h : isObj g o = true) : g = o.gen ∧ g < 2 ∧ o.sz = 0 ∧ o.n = 0 := by
 simp only [isObj, Bool.and_eq_true] at h
 exact ⟨Nat.eq_of_beq_eq_true h.1.1.1, Nat.le_of_ble_eq_true h.1.1.2, Nat.eq_of_beq_eq_true h.1.2, Nat.eq_of_beq_eq_true h.2⟩
theorem isIter_out {o : AO} (h : isIter o = true) : o.gen = 2 ∧ o.sz = 0 ∧ o.n = 0 := by
 simp only [isIter, Bool.and_eq_true] at h
 exact ⟨Nat.eq_of_beq_eq_true h.1.1, Nat.eq_of_beq_eq_true h.1.2, Nat.eq_of_beq_eq_true h.2⟩
theorem Mem.mapAt (hm : Mem C φ M H U w) {id g : Nat} {o : AO} (ho : H id = some o) (hi : isObj g o = true) {x : Value} (hx : Ra φ w M (.obj id g) x) :
  ∃ b es, x = .map (some b) ∧ φ id o.gen = some b ∧ w.heap[b]? = some (.map es o.E) ∧ ¬ M b ∧ es.size = o.E ∧ (∀ i j, i < o.E → j < o.E → o.f i 0 = o.f j 0 → i = j) ∧
   ∀ i e, es[i]? = some e → e.born = i ∧ Ra φ w M (o.f i 0) e.key ∧ Ra φ w M (o.f i 1) e.val ∧ KeyOk o.gen (o.f i 0) := by
 obtain ⟨rfl, h2, h3, h4⟩ := isObj_out hi
 generalize hgg : o.gen = g at hx
 cases hx with
 | it _ b hb => omega
 | mp _ _ b _ hb =>
   rw [← hgg] at hb
   obtain ⟨B, k1, k2, k3⟩ := hm.objAt ho hb h3
   unfold ObjB at k3
   split at k3
   ·rename_i es clock
    obtain ⟨g1, g2, g3, g5, g4⟩ := k3
    subst g3
    exact ⟨b, es, rfl, by rw [← hgg]; exact hb, k1, k2, g2, g5, by rw [← hgg]; exact g4⟩
   ·omega
   ·exact k3.elim

theorem opRange_does (hT : T.ok P = true) (hm : Mem C φ M H U w) {t : TypeId} {d : Nat} {r : Res} {x : AV} {vx : Value} (hd : d ∉ U) (h : opRange T t x H d = some r) (hx : Ra φ w M x vx) : Does P C φ M H U w (Instr.range t vx) r := by
 unfold opRange at h
 split at h
 ·rename_i K E _ _ _ id g hti
  obtain ⟨dd, ii, st⟩ := Tab.info hT hti
  obtain rfl := st.desc_map
  split at h
  ·rename_i o ho
   cases hb : isObj g o with
   | false => rw [hb] at h; cases h
   | true =>
     rw [hb] at h
     obtain rfl := Option.some.inj h
     intro _
     obtain ⟨b, es, rfl, h1, h2, h3, h4, h5, h6⟩ := hm.mapAt ho hb hx
     obtain ⟨φ', p1, p2, p3, p4, p5⟩ := newO_does (o := ⟨o.E, 2, 0, 0, iterF (.obj id g)⟩) hm hd w.drawn (B := .mapIter (some b) o.E #[] o.E) rfl rfl ⟨rfl, rfl, rfl, hx, fun i hi => by simp [iterF], fun k hk => by exact absurd (show (AV.nilS : AV) = .pv (.int .i64 k) from hk) (by intro h; cases h)⟩
     refine ⟨.pointer (some ⟨w.heap.size, 0, none⟩), _, φ', ?_, p1, p3, p4, p5, .it _ _ p2⟩
     simp only [Instr.range, Sem.run_bind, st.run_und, Result.andThen_ok, MapKept.run_getObj_map h2]
     rfl
  ·cases h
 ·cases h

theorem findNow_sound {dsc : TypeDesc} {key : Value} : ∀ (es : List MapEntry) (i : Nat), (∀ e ∈ es, ∃ b, Instr.sameNow dsc key e.key = some b ∧ (b = true ↔ e.key = key)) →
  (Instr.findNow dsc key es i = some none ∧ ∀ e ∈ es, e.key ≠ key) ∨ ∃ (j : Nat) (e : MapEntry), es[j]? = some e ∧ e.key = key ∧ Instr.findNow dsc key es i = some (some (i + j, e.val)) := by
 intro es
 induction es with
 | nil => intro i _; exact .inl ⟨rfl, fun e he => by simp at he⟩
 | cons e es ih =>
   intro i hs
   obtain ⟨b, hb, hk⟩ := hs e (List.mem_cons_self ..)
   cases b with
   | true =>
     refine .inr ⟨0, e, rfl, hk.mp rfl, ?_⟩
     simp [Instr.findNow, hb]
   | false =>
     have hne : e.key ≠ key := fun he => by simpa using hk.mpr he
     rcases ih (i + 1) (fun e he => hs e (List.mem_cons_of_mem _ he)) with ⟨h1, h2⟩ | ⟨j, e', h1, h2, h3⟩
     ·refine .inl ⟨by simp [Instr.findNow, hb, h1], fun e' he' => ?_⟩
      rcases List.mem_cons.mp he' with rfl | he'
      ·exact hne
      ·exact h2 e' he'
     ·refine .inr ⟨j + 1, e', by simpa using h1, h2, ?_⟩
      simp [Instr.findNow, hb, h3]
      omega

theorem run_checkKey {kt : TypeId} {g : Nat} {e : Bool} (hd : (g = 0 ∧ ∃ k, P.underlying kt = some (.int k)) ∨ (g = 1 ∧ P.underlying kt = some .string)) (v : Value) : (Instr.checkKey e 10000 kt v).run P w = .ok () w := by
 rcases hd with ⟨_, k, hd⟩ | ⟨_, hd⟩
 ·rw [Instr.checkKey, Sem.run_bind, run_underlying hd]; rfl
 ·rw [Instr.checkKey, Sem.run_bind, run_underlying hd]; rfl

theorem run_findKey {kt : TypeId} {g : Nat} {o : AO} {es : Array MapEntry} {key : AV} {vk : Value} (hd : (g = 0 ∧ ∃ k, P.underlying kt = some (.int k)) ∨ (g = 1 ∧ P.underlying kt = some .string)) (hg : o.gen = g) (hs : es.size = o.E)
  (he : ∀ i e, es[i]? = some e → e.born = i ∧ Ra φ w M (o.f i 0) e.key ∧ Ra φ w M (o.f i 1) e.val ∧ KeyOk o.gen (o.f i 0)) (hf : keyFits g key = true) (hk : Ra φ w M key vk) :
  ((Instr.findKey kt vk es.toList).run P w = .ok none w ∧ ∀ i, i < o.E → o.f i 0 ≠ key) ∨
  ∃ j e, es[j]? = some e ∧ j < o.E ∧ o.f j 0 = key ∧ e.key = vk ∧ (Instr.findKey kt vk es.toList).run P w = .ok (some (j, e.val)) w := by
 have hmem : ∀ e ∈ es.toList, ∃ i, es[i]? = some e := fun e h => by
  obtain ⟨i, hi, rfl⟩ := List.getElem_of_mem h
  have hi' : i < es.size := by simpa using hi
  exact ⟨i, by rw [Array.getElem?_eq_getElem hi']; simp⟩
 have key2 : ∀ dsc, P.underlying kt = some dsc → (∀ e ∈ es.toList, ∃ b, Instr.sameNow dsc vk e.key = some b ∧ (b = true ↔ e.key = vk)) → (∀ i e, es[i]? = some e → (o.f i 0 = key ↔ e.key = vk)) →
   ((Instr.findKey kt vk es.toList).run P w = .ok none w ∧ ∀ i, i < o.E → o.f i 0 ≠ key) ∨ ∃ j e, es[j]? = some e ∧ j < o.E ∧ o.f j 0 = key ∧ e.key = vk ∧ (Instr.findKey kt vk es.toList).run P w = .ok (some (j, e.val)) w := by
  intro dsc hu h1 h2
  rcases findNow_sound es.toList 0 h1 with ⟨g1, g2⟩ | ⟨j, e, g1, g2, g3⟩
  ·refine .inl ⟨?_, fun i hi => ?_⟩
   ·simp [Instr.findKey, run_underlying hu, g1]
   ·have hx : es[i]? = some (es[i]'(by omega)) := Array.getElem?_eq_getElem (by omega)
    intro hc
    exact g2 _ (by simp) ((h2 i _ hx).mp hc)
  ·have hj : es[j]? = some e := by simpa using g1
   refine .inr ⟨j, e, hj, by rw [← hs]; exact (Array.getElem?_eq_some_iff.mp hj).1, (h2 j e hj).mpr g2, g2, ?_⟩
   simp [Instr.findKey, run_underlying hu, g3]
 rcases hd with ⟨rfl, k, hd⟩ | ⟨rfl, hd⟩
 ·have : ∃ n, key = .pv (.int .i64 n) := by
   unfold keyFits at hf
   split at hf
   ·exact ⟨_, rfl⟩
   ·cases ‹(0 : Nat) = 1›
   ·cases hf
  obtain ⟨n, rfl⟩ := this
  obtain rfl := hk.int
  have hkeys : ∀ i e, es[i]? = some e → ∃ m, o.f i 0 = .pv (.int .i64 m) ∧ e.key = .int .i64 m := fun i e hi => by
   obtain ⟨_, k2, _, k4⟩ := he i e hi
   rw [hg] at k4
   obtain ⟨m, hm⟩ := k4
   rw [hm] at k2
   exact ⟨m, hm, k2.int⟩
  refine key2 _ hd (fun e hm => ?_) (fun i e hi => ?_)
  ·obtain ⟨i, hi⟩ := hmem e hm
   obtain ⟨m, _, h2⟩ := hkeys i e hi
   refine ⟨n == m, by rw [h2]; simp [Instr.sameNow], ?_⟩
   rw [h2]; simp; exact ⟨fun h => h.symm, fun h => h.symm⟩
  ·obtain ⟨m, h1, h2⟩ := hkeys i e hi
   rw [h1, h2]; simp
 ·have : ∃ s, key = .pv (.str s) := by
   unfold keyFits at hf
   split at hf
   ·cases ‹(1 : Nat) = 0›
   ·exact ⟨_, rfl⟩
   ·cases hf
  obtain ⟨n, rfl⟩ := this
  obtain rfl := hk.str
  have hkeys : ∀ i e, es[i]? = some e → ∃ m, o.f i 0 = .pv (.str m) ∧ e.key = .string ⟨m.toArray⟩ := fun i e hi => by
   obtain ⟨_, k2, _, k4⟩ := he i e hi
   rw [hg] at k4
   obtain ⟨m, hm⟩ := k4
   rw [hm] at k2
   exact ⟨m, hm, k2.str⟩
  refine key2 _ hd (fun e hm => ?_) (fun i e hi => ?_)
  ·obtain ⟨i, hi⟩ := hmem e hm
   obtain ⟨m, _, h2⟩ := hkeys i e hi
   refine ⟨n == m, by rw [h2]; simp only [Instr.sameNow]; rw [beq_toListBytes]; simp, ?_⟩
   rw [h2]; simp; exact ⟨fun h => h.symm, fun h => h.symm⟩
  ·obtain ⟨m, h1, h2⟩ := hkeys i e hi
   rw [h1, h2]; simp

theorem zeroOf_out (hT : T.ok P = true) {et : TypeId} {z : AV} (h : zeroOf T et = some z) (φ : Names) (w : World) (M : Blocks) : ∃ x, (zeroValue et).run P w = .ok x w ∧ Ra φ w M z x := by
 unfold zeroOf at h
 split at h
 ·rename_i ei hei
  obtain ⟨d, i, s⟩ := Tab.info hT hei
  cases hb : (ei.kind.agg || Nat.beq ei.size 1) with
  | false => rw [hb] at h; cases h
  | true =>
    rw [hb] at h
    obtain rfl := Option.some.inj h
    obtain ⟨x, h1, h2, h3, h4⟩ := s.run_zero w
    refine ⟨x, h1, ?_⟩
    unfold valueOf
    cases hk : ei.kind.agg with
    | true =>
      obtain ⟨cs, rfl⟩ := h2.mpr hk
      exact .agg _ _ cs h3 (fun i hi => (isZero_sound (h4 i hi) φ w M).2.1) (fun i hi => (isZero_sound (h4 i hi) φ w M).1)
    | false =>
      rw [hk] at hb
      have hz : ei.size = 1 := Nat.eq_of_beq_eq_true (by simpa using hb)
      have h0 := (isZero_sound (h4 0 (by omega)) φ w M).1
      have hne : ∀ cs, x ≠ .agg cs := fun cs e => by
       have := h2.mp ⟨cs, e⟩
       rw [hk] at this; cases this
      have hx : x.cells.getD 0 undef = x := by
       cases x <;> first | rfl | exact absurd rfl (hne _)
      rw [hx] at h0
      exact h0
 ·cases h

theorem Ra.okTup {v : AV} {x : Value} (h : Ra φ w M v x) (ok b : Bool) : Ra φ w M (okTup ok v b) (if ok then .tuple #[x, .bool b] else x) := by
 cases ok with
 | false => exact h
 | true =>
   refine .tup 2 _ #[x, .bool b] rfl (fun i hi => ?_)
   match i, hi with
   | 0, _ => exact h
   | 1, _ => exact .pv _ _ (.bool b)

theorem opLookup_does (hT : T.ok P = true) (hm : Mem C φ M H U w) {t : TypeId} {x key : AV} {ok : Bool} {vx vk : Value} {F : (AV → Prop) → Prop} (h : opLookup T t x key ok H = some F) (hx : Ra φ w M x vx) (hk : Ra φ w M key vk) (κ : AV → Prop) (hF : F κ) :
  ∃ v y, κ v ∧ Ra φ w M v y ∧ (Instr.lookup t vx vk ok).run P w = .ok y w := by
 unfold opLookup at h
 split at h
 ·rename_i kt et _ _ _ hti
  obtain ⟨dd, ii, st⟩ := Tab.info hT hti
  obtain rfl := st.desc_map
  split at h
  ·rename_i g0 z hg0 hz
   have hd := keyKind_out hT hg0
   obtain ⟨zv, hz1, hz2⟩ := zeroOf_out hT hz φ w M
   split at h
   ·obtain rfl := Option.some.inj h
    cases hx
    refine ⟨_, _, hF, hz2.okTup ok false, ?_⟩
    have hf : (Instr.findKey kt vk []).run P w = .ok none w := by
     rcases hd with ⟨_, k, hd⟩ | ⟨_, hd⟩ <;> simp [Instr.findKey, run_underlying hd, Instr.findNow]
    cases ok <;> simp [Instr.lookup, st.run_und, run_checkKey hd, hf, hz1]
   ·rename_i id g
    split at h
    ·rename_i o ho
     cases hb : (isObj g o && Nat.beq g g0 && keyFits g key) with
     | false => rw [hb] at h; cases h
     | true =>
       rw [hb] at h
       obtain rfl := Option.some.inj h
       simp only [Bool.and_eq_true] at hb
       obtain ⟨⟨hb1, hb2⟩, hb3⟩ := hb
       obtain rfl := Nat.eq_of_beq_eq_true hb2
       obtain ⟨b, es, rfl, h1, h2, h3, h4, h5, h6⟩ := hm.mapAt ho hb1 hx
       have hgen := (isObj_out hb1).1
       rcases run_findKey hd hgen.symm h4 h6 hb3 hk with ⟨k1, k2⟩ | ⟨j, e, k1, k2, k3, k4, k5⟩
       ·refine ⟨_, _, hF.2 k2, hz2.okTup ok false, ?_⟩
        cases ok <;> simp [Instr.lookup, st.run_und, MapKept.run_getObj_map h2, run_checkKey hd, k1, hz1]
       ·refine ⟨_, _, hF.1 j k2 k3, (h6 j e k1).2.2.1.okTup ok true, ?_⟩
        cases ok <;> simp [Instr.lookup, st.run_und, MapKept.run_getObj_map h2, run_checkKey hd, k5]
    ·cases h
   ·cases h
  ·cases h
 ·cases h

theorem run_keyThatStays {g : Nat} {key : AV} {vk : Value} (hf : keyFits g key = true) (hk : Ra φ w M key vk) : (Instr.keyThatStays vk vk).run P w = .ok vk w := by
 have : Instr.sameBits 10000 vk vk = true := by
  unfold keyFits at hf
  split at hf
  ·obtain rfl := hk.int; simp [Instr.sameBits]
  ·obtain rfl := hk.str; simp only [Instr.sameBits]; rw [beq_toListBytes]; simp
  ·cases hf
 simp [Instr.keyThatStays, this]

theorem opMapUpd_does (hT : T.ok P = true) (hm : Mem C φ M H U w) {t : TypeId} {x key v : AV} {vx vk vv : Value} {F : (Heap → Prop) → Prop} (h : opMapUpd T t x key v H = some F) (hx : Ra φ w M x vx) (hk : Ra φ w M key vk) (hv : Ra φ w M v vv) (κ : Heap → Prop) (hF : F κ) :
  ∃ H' w', κ H' ∧ (Instr.mapUpdate t vx vk vv).run P w = .ok () w' ∧ (∀ b, M b → w'.heap[b]? = w.heap[b]?) ∧ (∀ b, bsize w b ≤ bsize w' b) ∧ Mem C φ M H' U w' := by
 unfold opMapUpd at h
 split at h
 ·rename_i kt et _ _ _ hti
  obtain ⟨dd, ii, st⟩ := Tab.info hT hti
  obtain rfl := st.desc_map
  split at h
  ·rename_i g0 hg0
   have hd := keyKind_out hT hg0
   split at h
   ·rename_i id g
    split at h
    ·rename_i o ho
     cases hb : (isObj g o && Nat.beq g g0 && keyFits g key) with
     | false => rw [hb] at h; cases h
     | true =>
       rw [hb] at h
       obtain rfl := Option.some.inj h
       simp only [Bool.and_eq_true] at hb
       obtain ⟨⟨hb1, hb2⟩, hb3⟩ := hb
       obtain rfl := Nat.eq_of_beq_eq_true hb2
       obtain ⟨b, es, rfl, h1, h2, h3, h4, h5, h6⟩ := hm.mapAt ho hb1 hx
       obtain ⟨hgen, hg2, hsz, hn⟩ := isObj_out hb1
       have hset : ∀ B, (setObj b B).run P w = .ok () (putBlk w b B) := fun B => MapKept.run_setObj_map B h2
       have hlook : ∀ i e, es[i]? = some e → i < o.E := fun i e he => by rw [← h4]; exact (Array.getElem?_eq_some_iff.mp he).1
       have fin : ∀ B o', cellsB B = false → o'.gen = o.gen → o'.n = 0 → o'.sz = 0 → ObjB φ w M o' B → κ (updF H id o') → (Instr.mapUpdate t (.map (some b)) vk vv).run P w = .ok () (putBlk w b B) →
         ∃ H' w', κ H' ∧ (Instr.mapUpdate t (.map (some b)) vk vv).run P w = .ok () w' ∧ (∀ b, M b → w'.heap[b]? = w.heap[b]?) ∧ (∀ b, bsize w b ≤ bsize w' b) ∧ Mem C φ M H' U w' := fun B o' hc e1 e2 e3 hO hκ hrun =>
        ⟨_, _, hκ, hrun, fun c hc' => by rw [putBlk_get h2, if_neg (fun e : c = b => h3 (e ▸ hc'))], fun c => Nat.le_of_eq (bsize_obj h2 rfl hc c).symm, hm.obj ho h1 h2 rfl hc h3 e1 e2 e3 hO⟩
       rcases run_findKey hd hgen.symm h4 h6 hb3 hk with ⟨k1, k2⟩ | ⟨j, e, k1, k2, k3, k4, k5⟩
       ·refine fin (.map (es.push ⟨vk, vv, o.E⟩) (o.E + 1)) ⟨o.E + 1, o.gen, 0, 0, pushV o.f o.E key v⟩ rfl rfl rfl rfl ⟨by rw [← hgen]; exact hg2, by simp [h4], rfl, ?_, ?_⟩ (hF.2 k2) ?_
        ·have hpv : ∀ i, pushV o.f o.E key v i 0 = if i = o.E then key else o.f i 0 := fun i => by
          simp only [pushV]
          by_cases hi : i = o.E
          ·subst hi; simp
          ·rw [if_neg hi, beqN_ne hi]; rfl
         intro i j hi hj he
         replace hi : i < o.E + 1 := hi
         replace hj : j < o.E + 1 := hj
         replace he : pushV o.f o.E key v i 0 = pushV o.f o.E key v j 0 := he
         rw [hpv, hpv] at he
         by_cases hi' : i = o.E <;> by_cases hj' : j = o.E
         ·omega
         ·rw [if_pos hi', if_neg hj'] at he; exact absurd he.symm (k2 j (by omega))
         ·rw [if_neg hi', if_pos hj'] at he; exact absurd he (k2 i (by omega))
         ·rw [if_neg hi', if_neg hj'] at he; exact h5 i j (by omega) (by omega) he
        ·intro i e he
         rw [Array.getElem?_push] at he
         by_cases hi : i = es.size
         ·rw [if_pos hi] at he
          obtain rfl := Option.some.inj he
          have hiE : i = o.E := by omega
          subst hiE
          refine ⟨rfl, ?_, ?_, ?_⟩
          ·show Ra φ w M (pushV o.f o.E key v o.E 0) vk; rw [pushV_key]; exact hk
          ·show Ra φ w M (pushV o.f o.E key v o.E 1) vv; rw [pushV_val]; exact hv
          ·show KeyOk o.gen (pushV o.f o.E key v o.E 0)
           have : pushV o.f o.E key v o.E 0 = key := pushV_key _ _ _ _
           rw [this, ← hgen]
           unfold keyFits at hb3
           split at hb3
           ·exact ⟨_, rfl⟩
           ·exact ⟨_, rfl⟩
           ·cases hb3
         ·rw [if_neg hi] at he
          have hne : Nat.beq i o.E = false := beqN_ne (by have := hlook i e he; omega)
          have : ∀ j, pushV o.f o.E key v i j = o.f i j := fun j => by simp only [pushV, hne]; rfl
          show e.born = i ∧ Ra φ w M (pushV o.f o.E key v i 0) e.key ∧ Ra φ w M (pushV o.f o.E key v i 1) e.val ∧ KeyOk o.gen (pushV o.f o.E key v i 0)
          rw [this, this]
          exact h6 i e he
        ·simp [Instr.mapUpdate, st.run_und, MapKept.run_getObj_map h2, run_checkKey hd, k1, hset]
       ·refine fin (.map (es.modify j fun e => { e with key := vk, val := vv }) o.E) { o with f := setV o.f j v } rfl rfl hn hsz ⟨by rw [← hgen]; exact hg2, by simp [h4], rfl, ?_, ?_⟩ (hF.1 j k2 k3) ?_
        ·have hsv : ∀ i, setV o.f j v i 0 = o.f i 0 := fun i => setV_key _ _ _ _
         intro i i2 hi hi2 he
         replace he : setV o.f j v i 0 = setV o.f j v i2 0 := he
         rw [hsv, hsv] at he
         exact h5 i i2 hi hi2 he
        ·intro i e' he'
         rw [Array.getElem?_modify] at he'
         by_cases hi : j = i
         ·subst hi
          rw [if_pos rfl, k1] at he'
          obtain rfl := Option.some.inj he'
          obtain ⟨g1, g2, g3, g4⟩ := h6 j e k1
          refine ⟨g1, ?_, ?_, ?_⟩
          ·show Ra φ w M (setV o.f j v j 0) vk
           have : setV o.f j v j 0 = o.f j 0 := setV_key _ _ _ _
           rw [this, k3]; exact hk
          ·show Ra φ w M (setV o.f j v j 1) vv; rw [setV_val]; exact hv
          ·show KeyOk o.gen (setV o.f j v j 0)
           have : setV o.f j v j 0 = o.f j 0 := setV_key _ _ _ _
           rw [this]; exact g4
         ·rw [if_neg hi] at he'
          have hne : Nat.beq i j = false := beqN_ne (fun e => hi e.symm)
          have : ∀ c, setV o.f j v i c = o.f i c := fun c => setV_ne o.f v (fun e => hi e.symm) c
          show e'.born = i ∧ Ra φ w M (setV o.f j v i 0) e'.key ∧ Ra φ w M (setV o.f j v i 1) e'.val ∧ KeyOk o.gen (setV o.f j v i 0)
          rw [this, this]
          exact h6 i e' he'
        ·have hkey : ((es[j]?).map (·.key)).getD vk = vk := by rw [k1]; exact k4
         simp only [Instr.mapUpdate, Sem.run_bind, st.run_und, Result.andThen_ok, MapKept.run_getObj_map h2, run_checkKey hd, k5, hkey, run_keyThatStays hb3 hk, hset]
    ·cases h
   ·cases h
  ·cases h
 ·cases h

theorem Mem.iterAt (hm : Mem C φ M H U w) {id : Nat} {o : AO} (ho : H id = some o) (hi : isIter o = true) {x : Value} (hx : Ra φ w M (.obj id 2) x) :
  ∃ b m seen, x = .pointer (some ⟨b, 0, none⟩) ∧ φ id o.gen = some b ∧ w.heap[b]? = some (.mapIter (some m) o.E seen o.E) ∧ ¬ M b ∧ Ra φ w M (o.f 0 0) (.map (some m)) ∧ (∀ i, i < o.E → o.f i 1 = .pv (.bool (seen.contains i))) ∧
   ∀ k, o.f 1 0 = .pv (.int .i64 k) → ∃ (i : Nat) (s : Array Nat), k = i ∧ seen = s.push i := by
 obtain ⟨h2, h3, h4⟩ := isIter_out hi
 cases hx with
 | mp _ _ b hlt hb => omega
 | it _ b hb =>
   rw [← h2] at hb
   obtain ⟨B, k1, k2, k3⟩ := hm.objAt ho hb h3
   unfold ObjB at k3
   split at k3
   ·omega
   ·rename_i m since seen last
    obtain ⟨g1, g2, g3, g4, g5, g6⟩ := k3
    subst g2
    rw [g3] at k1
    exact ⟨b, m, seen, rfl, hb, k1, k2, g4, g5, g6⟩
   ·exact k3.elim

theorem opEntry_pure (hm : Mem C φ M H U w) {x : AV} {vx : Value} {r : Res} (h : opEntry x H = some r) (hx : Ra φ w M x vx) : Pure P φ M w (Instr.entry vx) r := by
 unfold opEntry at h
 split at h
 ·rename_i id g
  split at h
  ·rename_i o ho
   split at h
   ·rename_i mid gm k hmid hk
    split at h
    ·rename_i m hmm
     cases hb : (Nat.beq g 2 && isIter o && isObj gm m) with
     | false => rw [hb] at h; cases h
     | true =>
       rw [hb] at h
       simp only [Bool.and_eq_true] at hb
       obtain ⟨⟨hb1, hb2⟩, hb3⟩ := hb
       obtain rfl := Nat.eq_of_beq_eq_true hb1
       obtain ⟨b, mb, seen, rfl, h1, h2, h3, h4, h5, h6⟩ := hm.iterAt ho hb2 hx
       rw [hmid] at h4
       obtain ⟨b2, es, hbb, k1, k2, k3, k4, k5, k6⟩ := hm.mapAt hmm hb3 h4
       injection hbb with hbb; obtain rfl := Option.some.inj hbb
       refine .okIf h fun ⟨hE, hk0, hk1⟩ => ?_
       obtain ⟨i, s, rfl, rfl⟩ := h6 k hk
       have hi : i < es.size := by omega
       have he : es[i]? = some es[i] := Array.getElem?_eq_getElem hi
       obtain ⟨q1, q2, q3, q4⟩ := k6 i _ he
       refine ⟨.tuple #[es[i].key, es[i].val], ?_, .tup 2 _ _ rfl fun j hj => ?_⟩
       ·refine run_entry_at w b mb o.E s es o.E es[i] (by rw [q1]; exact h2) (by rw [← hE]; exact k2) (by simp) ?_
        show List.Pairwise _ _
        rw [List.pairwise_iff_getElem]
        intro a c ha hc hac
        simp only [List.length_map, Array.length_toList] at ha hc
        have ha' : es[a]? = some es[a] := Array.getElem?_eq_getElem ha
        have hc' : es[c]? = some es[c] := Array.getElem?_eq_getElem hc
        simp only [List.getElem_map, Array.getElem_toList]
        rw [(k6 a _ ha').1, (k6 c _ hc').1]
        omega
       ·match j, hj with
        | 0, _ => exact q2
        | 1, _ => exact q3
    ·cases h
   ·cases h
  ·cases h
 ·cases h

def NilCase (d : TypeDesc) (x y : Value) (b : Bool) : Prop :=
 (∃ K E, d = .map K E ∧ y = .map none ∧ ((x = .map none ∧ b = true) ∨ ∃ c, x = .map (some c) ∧ b = false)) ∨
 (∃ ms, d = .interface ms ∧ y = .nilIface ∧ ((x = .nilIface ∧ b = true) ∨ ∃ t v, x = .iface t v ∧ b = false)) ∨
 (∃ p q r, d = .func p q r ∧ y = .nilFunc ∧ ((x = .nilFunc ∧ b = true) ∨ ∃ f u v, x = .func f u v ∧ b = false)) ∨
 (∃ E, d = .pointer E ∧ y = .pointer none ∧ ((x = .pointer none ∧ b = true) ∨ ∃ c, x = .pointer (some c) ∧ b = false))
theorem NilCase.eq {t : TypeId} {d : TypeDesc} {x y : Value} {b : Bool} (hu : P.underlying t = some d) (h : NilCase d x y b) : (Op.equal t x y).run P w = .ok b w := by
 show (Op.equalIn (9999 + 1) t x y).run P w = .ok b w
 generalize 9999 = n
 rcases h with ⟨K, E, rfl, rfl, ⟨rfl, rfl⟩ | ⟨c, rfl, rfl⟩⟩ | ⟨ms, rfl, rfl, ⟨rfl, rfl⟩ | ⟨tt, v, rfl, rfl⟩⟩ | ⟨p, q, r, rfl, rfl, ⟨rfl, rfl⟩ | ⟨f, u, v, rfl, rfl⟩⟩ | ⟨E, rfl, rfl, ⟨rfl, rfl⟩ | ⟨c, rfl, rfl⟩⟩
 all_goals simp [Op.equalIn, run_underlying hu]
theorem NilCase.bin {t : TypeId} {d : TypeDesc} {x y : Value} {b : Bool} (hu : P.underlying t = some d) (h : NilCase d x y b) : (binOp .eql t x y).run P w = .ok (.bool b) w ∧ (binOp .neq t x y).run P w = .ok (.bool (!b)) w := by
 have he := h.eq (w := w) hu
 rcases h with ⟨K, E, rfl, rfl, ⟨rfl, rfl⟩ | ⟨c, rfl, rfl⟩⟩ | ⟨ms, rfl, rfl, ⟨rfl, rfl⟩ | ⟨tt, v, rfl, rfl⟩⟩ | ⟨p, q, r, rfl, rfl, ⟨rfl, rfl⟩ | ⟨f, u, v, rfl, rfl⟩⟩ | ⟨E, rfl, rfl, ⟨rfl, rfl⟩ | ⟨c, rfl, rfl⟩⟩
 all_goals exact ⟨by simp [binOp, he], by simp [binOp, he]⟩
theorem NilCase.guard {t : TypeId} {d : TypeDesc} {x : Value} {v : Value} {b : Bool} (h : NilCase d x v b) (op : BinOp) (ox oy : Operand) (hy : nilConst oy = true) : (eqGuard op t ox oy x v).run P w = .ok () w := by
 obtain ⟨c, rfl⟩ : ∃ c, oy = .const c := by unfold nilConst at hy; split at hy <;> first | exact ⟨_, rfl⟩ | cases hy
 rcases h with ⟨K, E, rfl, rfl, ⟨rfl, rfl⟩ | ⟨c, rfl, rfl⟩⟩ | ⟨ms, rfl, rfl, ⟨rfl, rfl⟩ | ⟨tt, v, rfl, rfl⟩⟩ | ⟨p, q, r, rfl, rfl, ⟨rfl, rfl⟩ | ⟨f, u, v, rfl, rfl⟩⟩ | ⟨E, rfl, rfl, ⟨rfl, rfl⟩ | ⟨c, rfl, rfl⟩⟩
 all_goals (unfold eqGuard; split <;> simp)

theorem isNilA_out {t : TypeId} {ti : TI} {d : TypeDesc} {i : TypeInfo} (s : TIs P t ti d i) {v y : AV} {b : Bool} (h : isNilA ti.kind v y = some b) {vx vy : Value} (hx : Ra φ w M v vx) (hy : Ra φ w M y vy) :
  NilCase d vx vy b := by
 have hk := s.kind
 generalize ti.kind = k at h hk
 unfold isNilA at h
 split at h
 ·obtain rfl := Option.some.inj h
  cases d <;> simp [TK.is] at hk
  cases hy
  cases hx; exact .inl ⟨_, _, rfl, rfl, .inl ⟨rfl, rfl⟩⟩
 ·obtain rfl := Option.some.inj h
  cases d <;> simp [TK.is] at hk
  cases hy
  cases hx; exact .inl ⟨_, _, rfl, rfl, .inr ⟨_, rfl, rfl⟩⟩
 ·obtain rfl := Option.some.inj h
  cases d <;> simp [TK.is] at hk
  cases hy
  cases hx; exact .inl ⟨_, _, rfl, rfl, .inr ⟨_, rfl, rfl⟩⟩
 ·obtain rfl := Option.some.inj h
  cases d <;> simp [TK.is] at hk
  replace hy := hy.rp; cases hy
  cases hx with | pv _ _ hq => cases hq; exact .inr (.inl ⟨_, rfl, rfl, .inl ⟨rfl, rfl⟩⟩)
 ·obtain rfl := Option.some.inj h
  cases d <;> simp [TK.is] at hk
  replace hy := hy.rp; cases hy
  cases hx with | pv _ _ hq => cases hq; exact .inr (.inl ⟨_, rfl, rfl, .inr ⟨_, _, rfl, rfl⟩⟩)
 ·obtain rfl := Option.some.inj h
  cases d <;> simp [TK.is] at hk
  replace hy := hy.rp; cases hy
  cases hx with | pv _ _ hq => cases hq; exact .inr (.inr (.inl ⟨_, _, _, rfl, rfl, .inl ⟨rfl, rfl⟩⟩))
 ·obtain rfl := Option.some.inj h
  cases d <;> simp [TK.is] at hk
  replace hy := hy.rp; cases hy
  cases hx; exact .inr (.inr (.inl ⟨_, _, _, rfl, rfl, .inr ⟨_, _, _, rfl, rfl⟩⟩))
 ·obtain rfl := Option.some.inj h
  cases d <;> simp [TK.is] at hk
  replace hy := hy.rp; cases hy
  cases hx with | pv _ _ hq => cases hq; exact .inr (.inr (.inr ⟨_, rfl, rfl, .inl ⟨rfl, rfl⟩⟩))
 ·obtain rfl := Option.some.inj h
  cases d <;> simp [TK.is] at hk
  replace hy := hy.rp; cases hy
  cases hx; exact .inr (.inr (.inr ⟨_, rfl, rfl, .inr ⟨_, rfl, rfl⟩⟩))
 ·obtain rfl := Option.some.inj h
  cases d <;> simp [TK.is] at hk
  replace hy := hy.rp; cases hy
  cases hx; exact .inr (.inr (.inr ⟨_, rfl, rfl, .inr ⟨_, rfl, rfl⟩⟩))
 ·cases h

theorem opNil_pure (hT : T.ok P = true) {op : BinOp} {t : TypeId} {v u : AV} {x y : Operand} {vx vy : Value} {r : Res} (h : opNil T op t v u = some r) (hx : Ra φ w M v vx) (hu : Ra φ w M u vy) (hy : nilConst y = true) :
  Pure P φ M w (binOp op t vx vy) r ∧ (eqGuard op t x y vx vy).run P w = .ok () w := by
 unfold opNil at h
 split at h
 ·rename_i ti hti
  obtain ⟨d, i, s⟩ := Tab.info hT hti
  split at h
  ·rename_i b hb
   have hn := isNilA_out s hb hx hu
   exact ⟨.ok h (.bool b) (hn.bin s.und).1 (.pv _ _ (.bool b)), hn.guard _ _ _ hy⟩
  ·rename_i b hb
   have hn := isNilA_out s hb hx hu
   exact ⟨.ok h (.bool (!b)) (hn.bin s.und).2 (.pv _ _ (.bool _)), hn.guard _ _ _ hy⟩
  ·cases h
 ·cases h

theorem Ra.lift {p : PV} {x : Value} (h : Rp w M p x) : Ra φ w M (liftV p) x := by
 cases h with
 | agg n f cs h1 h2 h3 => exact .agg _ _ cs h1 h2 fun i hi => .pv _ _ (h3 i hi)
 | int => exact .pv _ _ (.int _ _)
 | bool => exact .pv _ _ (.bool _)
 | str => exact .pv _ _ (.str _)
 | nilI => exact .pv _ _ .nilI
 | nilP => exact .pv _ _ .nilP
 | nilF => exact .pv _ _ .nilF
 | ifc t p v h => exact .pv _ _ (.ifc _ _ _ h)
 | seq0 => exact .pv _ _ (.seq0 _ _ _ _ _)
 | seq E sz n f b o c g h1 h2 h3 h4 h5 => exact .pv _ _ (.seq _ _ _ _ b o c g h1 h2 h3 h4 h5)

theorem Ra.pair {u v : AV} {x y : Value} (h : Ra φ w M u x) (h' : Ra φ w M v y) : Ra φ w M (.tup 2 (pairF u v)) (.tuple #[x, y]) := by
 refine .tup 2 _ #[x, y] rfl (fun i hi => ?_)
 match i, hi with
 | 0, _ => exact h
 | 1, _ => exact h'

theorem opAssert_run (hT : T.ok P = true) {x : AV} {vx : Value} {xT t : TypeId} {v : AV} (h : opAssert T x t = some v) (hx : Ra φ w M x vx) : ∃ y, (Instr.typeAssert vx xT t true).run P w = .ok y w ∧ Ra φ w M v y := by
 unfold opAssert at h
 cases hc : isCon T t with
 | false => rw [hc] at h; cases h
 | true =>
   rw [hc] at h
   simp only [cond_true] at h
   obtain ⟨d, hu, hd⟩ : ∃ d, P.underlying t = some d ∧ ∀ ms, d ≠ .interface ms := by
    unfold isCon at hc
    split at hc
    ·rename_i ti hti
     obtain ⟨d, i, s⟩ := Tab.info hT hti
     refine ⟨d, s.und, ?_⟩
     rintro ms rfl
     have := s.kind
     cases hk : ti.kind <;> simp_all [TK.is]
    ·cases hc
   split at h
   ·rename_i u p
    have hr := hx.rp
    cases hr with | ifc _ _ y hy =>
    cases hb : Nat.beq u t with
    | true =>
      rw [hb] at h
      obtain rfl := Option.some.inj h
      obtain rfl := Nat.eq_of_beq_eq_true hb
      refine ⟨.tuple #[y, .bool true], ?_, .pair (.lift hy) (.pv _ _ (.bool true))⟩
      simp only [Instr.typeAssert, Sem.run_bind, run_underlying hu, Result.andThen_ok]
      cases d <;> first | (exact absurd rfl (hd _)) | simp
    | false =>
      rw [hb] at h
      obtain ⟨z, hz, rfl⟩ := Option.map_eq_some_iff.mp h
      obtain ⟨zv, hz1, hz2⟩ := zeroOf_out hT hz φ w M
      have hne : u ≠ t := fun e => by subst e; rw [Nat.beq_refl] at hb; cases hb
      refine ⟨.tuple #[zv, .bool false], ?_, .pair hz2 (.pv _ _ (.bool false))⟩
      simp only [Instr.typeAssert, Sem.run_bind, run_underlying hu, Result.andThen_ok]
      cases d <;> first | (exact absurd rfl (hd _)) | simp [hne, hz1]
   ·have hr := hx.rp
    cases hr
    obtain ⟨z, hz, rfl⟩ := Option.map_eq_some_iff.mp h
    obtain ⟨zv, hz1, hz2⟩ := zeroOf_out hT hz φ w M
    refine ⟨.tuple #[zv, .bool false], ?_, .pair hz2 (.pv _ _ (.bool false))⟩
    simp only [Instr.typeAssert, Sem.run_bind, run_underlying hu, Result.andThen_ok]
    cases d <;> first | (exact absurd rfl (hd _)) | simp [hz1]
   ·cases h

theorem Mem.refz (h : Mem C φ M H U w) {id : Nat} {o : AO} (ho : H id = some o) {b : Nat} {arr : Array Value} {fz fz' : Nat × Nat} (hφ : φ id o.gen = some b) (hblk : w.heap[b]? = some (.cells arr o.E fz)) (hf : FzOk fz' arr.size) (_hz : o.sz ≠ 0) :
  Mem C φ M H U (putBlk w b (.cells arr o.E fz')) ∧ (∀ {v x}, Ra φ w M v x → Ra φ (putBlk w b (.cells arr o.E fz')) M v x) ∧ (∀ c, M c → (putBlk w b (.cells arr o.E fz')).heap[c]? = w.heap[c]?) ∧ (∀ c, bsize w c ≤ bsize (putBlk w b (.cells arr o.E fz')) c) := by
 have hbs : ∀ c, bsize w c = bsize (putBlk w b (.cells arr o.E fz')) c := fun c => by
  unfold bsize
  rw [putBlk_get hblk]
  by_cases hc : c = b
  ·subst hc; rw [if_pos rfl, hblk]
  ·rw [if_neg hc]
 obtain ⟨b', arr', fz0, h1, h2, h3, h4, h5, h6, h7⟩ := (h.heap.own id o ho).resolve_left (fun h0 => ObjAt.no h0.2 hφ hblk)
 rw [hφ] at h1; obtain rfl := Option.some.inj h1
 rw [hblk] at h2; injection h2 with h2; injection h2 with e1 e2 e3; subst e1; subst e3
 have hMh : ∀ c, M c → (putBlk w b (.cells arr o.E fz')).heap[c]? = w.heap[c]? := fun c hc => by rw [putBlk_get hblk, if_neg (fun e : c = b => h5 (e ▸ hc))]
 have hR : ∀ {v x}, Ra φ w M v x → Ra φ (putBlk w b (.cells arr o.E fz')) M v x := fun hx => hx.mono (fun _ _ _ h => h) (fun _ h => h) hMh (fun c => Nat.le_of_eq (hbs c))
 refine ⟨{ heap := { own := ?_, inj := h.heap.inj, last := h.heap.last, mlt := fun c hc => by simpa [putBlk] using h.heap.mlt c hc }, used := h.used, dom := h.dom, os := h.os, tape := h.tape, output := h.output, size := by simpa [putBlk] using h.size, frame := ?_, fresh := h.fresh, reads := h.reads, keeps := h.keeps, sizes := fun c => Nat.le_trans (h.sizes c) (Nat.le_of_eq (hbs c)), nlt := fun i g c hc => by simpa [putBlk] using h.nlt i g c hc, far := h.far }, hR, hMh, fun c => Nat.le_of_eq (hbs c)⟩
 ·intro id' o' ho'
  by_cases he : id' = id
  ·subst he
   rw [ho] at ho'; obtain rfl := Option.some.inj ho'
   exact .inr ⟨b, arr, fz', hφ, by rw [putBlk_get hblk, if_pos rfl], hf, h4, h5, h6, fun i j hi hj => hR (h7 i j hi hj)⟩
  ·have hne : ∀ c, φ id' o'.gen = some c → c ≠ b := by rintro c hc rfl; exact he (h.heap.inj _ _ _ _ _ ho' ho hc hφ)
   rcases h.heap.own id' o' ho' with h0 | ⟨c, arr', fz1, g1, g2, g3, g4, g5, g6, g7⟩
   ·exact .inl ⟨h0.1, ObjAt.or h0.2 (fun h => h) (fun _ h => h) (fun c hc _ _ => by rw [putBlk_get hblk, if_neg (hne c hc)]) (fun _ _ _ h => h) (fun _ _ hx => hR hx)⟩
   ·exact .inr ⟨c, arr', fz1, g1, by rw [putBlk_get hblk, if_neg (hne c g1)]; exact g2, g3, g4, g5, g6, fun i j hi hj => hR (g7 i j hi hj)⟩
 ·intro c hc hown
  rw [putBlk_get hblk, if_neg]
  ·exact h.frame c hc hown
  ·rintro rfl
   rcases h.fresh _ _ _ ho hφ with h8 | h8
   ·exact hown h8
   ·omega

theorem opMark_does (hT : T.ok P = true) (hm : Mem C φ M H U w) {s t : TypeId} {x v : AV} {vx : Value} (h : opMark T s t x H = some v) (hx : Ra φ w M x vx) :
  ∃ w', (convert s t vx).run P w = .ok vx w' ∧ Mem C φ M H U w' ∧ Ra φ w' M v vx ∧ (∀ b, M b → w'.heap[b]? = w.heap[b]?) ∧ (∀ b, bsize w b ≤ bsize w' b) := by
 unfold opMark at h
 split at h
 ·rename_i E _ _ _ hti
  obtain ⟨d, i, st⟩ := Tab.info hT hti
  obtain rfl := st.desc_slice
  split at h
  ·rename_i id gen sz off len hE
   obtain ⟨dE, iE, sE⟩ := Tab.info hT hE
   have hdE : dE = .int .u8 := by have := sE.kind; cases dE <;> simp_all [TK.is]
   subst hdE
   split at h
   ·rename_i o ho
    cases hb : (Nat.beq s t && Nat.beq gen o.gen && !Nat.beq o.sz 0 && Nat.ble 1 o.n) with
    | false => rw [hb] at h; cases h
    | true =>
      rw [hb] at h
      obtain rfl := Option.some.inj h
      simp only [Bool.and_eq_true, Bool.not_eq_true'] at hb
      obtain ⟨⟨⟨b1, b2⟩, b3⟩, b4⟩ := hb
      obtain rfl := Nat.eq_of_beq_eq_true b1
      obtain rfl := Nat.eq_of_beq_eq_true b2
      have hz : o.sz ≠ 0 := fun e => by rw [e] at b3; simp at b3
      have hn := Nat.le_of_ble_eq_true b4
      have hx0 := hx
      cases hx with
      | row _ _ _ _ _ b c hφ hlc hbs =>
        obtain ⟨b', arr, fz, h1, h2, h3, h4, h5, h6, h7⟩ := (hm.heap.own id o ho).resolve_left (fun h0 => by omega)
        rw [hφ] at h1; obtain rfl := Option.some.inj h1
        obtain ⟨fz', hfz'⟩ : ∃ fz' : Nat × Nat, fz' = (if fz.1 == fz.2 then (arr.size, arr.size + 1) else (min fz.1 arr.size, max fz.2 (arr.size + 1))) := ⟨_, rfl⟩
        have hf : FzOk fz' arr.size := by
         rw [hfz']
         rcases h3 with h3 | h3
         ·rw [if_pos (by simpa using h3)]; exact .inr (Nat.le_refl _)
         ·split
          ·exact .inr (Nat.le_refl _)
          ·refine .inr ?_; show arr.size ≤ min fz.1 arr.size; omega
        obtain ⟨q1, q2, q3, q4⟩ := hm.refz ho hφ h2 hf hz
        have hsh : w.shape? b = some (o.E, arr.size) := by unfold World.shape?; rw [h2]
        have hfr : w.freeze ⟨b, arr.size, none⟩ 1 = putBlk w b (.cells arr o.E fz') := by
         unfold World.freeze putBlk
         rw [if_neg (by decide)]
         congr 1
         apply Array.ext_getElem?
         intro k
         rw [Array.getElem?_modify, Array.getElem?_setIfInBounds]
         by_cases hk : b = k
         ·subst hk
          rw [if_pos rfl, if_pos rfl, h2, if_pos (Array.getElem?_eq_some_iff.mp h2).1, hfz']
          rfl
         ·rw [if_neg hk, if_neg hk]
        refine ⟨_, ?_, q1, q2 hx0, q3, q4⟩
        rw [← hfr]
        simp [convert, st.run_und, sE.run_und, markStringish, hsh]
   ·cases h
  ·cases h
 ·cases h

theorem opNext_does (hm : Mem C φ M H U w) {x : AV} {vx : Value} {ty : TypeId} {F : (AV → Heap → Prop) → Prop} (h : opNext x H = some F) (hx : Ra φ w M x vx) (κ : AV → Heap → Prop) (hF : F κ) :
  ∃ v H' y w', κ v H' ∧ (Instr.next vx false ty).run P w = .ok y w' ∧ Ra φ w' M v y ∧ (∀ b, M b → w'.heap[b]? = w.heap[b]?) ∧ (∀ b, bsize w b ≤ bsize w' b) ∧ Mem C φ M H' U w' := by
 unfold opNext at h
 split at h
 ·rename_i id g
  split at h
  ·rename_i o ho
   split at h
   ·rename_i mid gm hmid
    split at h
    ·rename_i m hmm
     cases hb : (Nat.beq g 2 && isIter o && isObj gm m) with
     | false => rw [hb] at h; cases h
     | true =>
       rw [hb] at h
       obtain rfl := Option.some.inj h
       simp only [Bool.and_eq_true] at hb
       obtain ⟨⟨hb1, hb2⟩, hb3⟩ := hb
       obtain rfl := Nat.eq_of_beq_eq_true hb1
       obtain ⟨hE, hF1, hF2⟩ := hF
       obtain ⟨b, mb, seen, rfl, h1, h2, h3, h4, h5, h6⟩ := hm.iterAt ho hb2 hx
       rw [hmid] at h4
       obtain ⟨b2, es, hbb, k1, k2, k3, k4, k5, k6⟩ := hm.mapAt hmm hb3 h4
       injection hbb with hbb; obtain rfl := Option.some.inj hbb
       have hborn : ∀ e ∈ es.toList, ∃ i, es[i]? = some e ∧ e.born = i ∧ i < o.E := fun e he => by
        obtain ⟨i, hi, rfl⟩ := List.getElem_of_mem he
        have hi' : i < es.size := by simpa using hi
        have hs : es[i]? = some es[i] := Array.getElem?_eq_getElem hi'
        exact ⟨i, by simp, by simpa using (k6 i _ hs).1, by omega⟩
       rcases run_next_at (P := P) w ty b mb o.E o.E seen es m.E h2 k2 (fun e he => by obtain ⟨i, _, h2, h3⟩ := hborn e he; omega) (Nat.le_refl _) with ⟨g1, g2⟩ | ⟨e, g1, w1, g2, g3⟩
       ·refine ⟨_, _, _, w, hF2 (fun i hi => ?_), g2, .tup 1 _ _ rfl fun j hj => ?_, fun _ _ => rfl, fun _ => Nat.le_refl _, hm⟩
        ·rw [h5 i hi]
         have hi' : i < es.size := by omega
         have hs : es[i]? = some es[i] := Array.getElem?_eq_getElem hi'
         have hl : leftOf es seen = #[] := Array.eq_empty_of_size_eq_zero g1
         unfold leftOf at hl
         rw [Array.filter_eq_empty_iff] at hl
         have := hl es[i] (by simp)
         rw [(k6 i _ hs).1] at this
         simp only [Bool.not_eq_true, Bool.not_eq_false'] at this
         rw [this]
        ·match j, hj with
         | 0, _ => exact .pv _ _ (.bool false)
       ·have hin : e ∈ es.toList ∧ seen.contains e.born = false := by
         unfold leftOf at g1
         simp only [Array.toList_filter, List.mem_filter, Bool.not_eq_true'] at g1
         exact g1
        obtain ⟨i, q1, q2, q3⟩ := hborn e hin.1
        have hkk := hF1 i q3 (by rw [h5 i q3, ← q2, hin.2])
        obtain ⟨_, r2, r3, _⟩ := k6 i e q1
        have hm1 : Mem C φ M H U w1 ∧ (∀ {v x}, Ra φ w M v x → Ra φ w1 M v x) ∧ w1.heap = w.heap := by
         rcases g2 with rfl | rfl
         ·exact ⟨hm, fun h => h, rfl⟩
         ·exact ⟨hm.drawn _, fun h => h.drawn _, rfl⟩
        obtain ⟨hm1, hR1, hh1⟩ := hm1
        have hb1 : w1.heap[b]? = some (.mapIter (some mb) o.E seen o.E) := by rw [hh1]; exact h2
        have hput : Go.ChangeMaps.setBlock w1 b (.mapIter (some mb) o.E (seen.push e.born) m.E) = putBlk w1 b (.mapIter (some mb) o.E (seen.push e.born) m.E) := rfl
        rw [hput] at g3
        refine ⟨_, _, _, _, hkk, g3, .tup 3 _ _ rfl fun j hj => ?_, fun c hc => ?_, fun c => ?_, hm1.obj ho h1 hb1 rfl rfl h3 rfl (isIter_out hb2).2.2 (isIter_out hb2).2.1 ⟨(isIter_out hb2).1, rfl, hE, ?_, fun a ha => ?_, fun k hk => ?_⟩⟩
        ·match j, hj with
         | 0, _ => exact .pv _ _ (.bool true)
         | 1, _ => exact (hR1 r2).putO hb1 rfl rfl h3
         | 2, _ => exact (hR1 r3).putO hb1 rfl rfl h3
        ·rw [putBlk_get hb1, if_neg (fun e : c = b => h3 (e ▸ hc)), hh1]
        ·rw [bsize_obj hb1 rfl rfl]
         unfold bsize; rw [hh1]; exact Nat.le_refl _
        ·show Ra φ w1 M (seeIt o.f i 0 0) (.map (some mb))
         rw [seeIt_map, hmid]; exact hR1 h4
        ·show seeIt o.f i a 1 = .pv (.bool ((seen.push e.born).contains a))
         have ha' := h5 a ha
         rw [q2, Array.contains_push]
         by_cases hai : a = i
         ·subst hai; rw [seeIt_same]; simp
         ·have hne : Nat.beq a i = false := beqN_ne hai
          have hne2 : (i == a) = false := by simpa using fun e => hai e.symm
          have : seeIt o.f i a 1 = o.f a 1 := seeIt_ne o.f hai
          rw [this, ha']
          have hne3 : (a == i) = false := by simpa using hai
          simp [hne3]
        ·replace hk : seeIt o.f i 1 0 = .pv (.int .i64 k) := hk
         have : seeIt o.f i 1 0 = .pv (.int .i64 i) := seeIt_last _ _
         rw [this] at hk
         injection hk with hk; injection hk with _ hk
         exact ⟨i, seen, hk.symm, by rw [q2]⟩
    ·cases h
   ·cases h
  ·cases h
 ·cases h

end

def evalParts (ev : Operand → Option AV) : List (Nat × Operand) → Option (List (Nat × AV))
 | [] => some []
 | (i, x) :: r => match ev x, evalParts ev r with
   | some v, some l => some ((i, v) :: l)
   | _, _ => none
def evalList (ev : Operand → Option AV) : List Operand → Option (List AV)
 | [] => some []
 | x :: r => match ev x, evalList ev r with
   | some v, some l => some (v :: l)
   | _, _ => none
def getL : List AV → Nat → AV
 | [], _ => .nilS
 | v :: _, 0 => v
 | _ :: l, n + 1 => getL l n

def evalOpt (ev : Operand → Option AV) : Option Operand → Option (Option AV)
 | none => some none
 | some x => match ev x with
   | some v => some (some v)
   | none => none

def fieldsKnown (T : Tab) (t : TypeId) : Bool :=
 match T.get t with
 | some ⟨.struct fs, _, _, _⟩ => fs.all fun q => (T.get q.2).isSome
 | _ => true

def notIface (T : Tab) (t : TypeId) : Bool :=
 match T.get t with
 | some ti => (match ti.kind with | .iface => false | _ => true)
 | none => false

def orElseR (a : Option Res) (b : Option Res) : Option Res :=
 match a with
 | some r => some r
 | none => b

def opBuiltin (T : Tab) (b : Builtin) (ts : Array TypeId) (vs : List AV) (H : Heap) (d : Nat) : Option Res :=
 match b, ts.toList, vs with
 | .len, [t], [x] => opLen T t x
 | .max, _, [x, y] => opMax x y
 | .min, _, [x, y] => opMin x y
 | .append, [s, t], [x, y] => opAppend T s t x y H d
 | _, _, _ => none

def opNilCheck (v : AV) : Option Res :=
 match v with
 | .ptr .. | .rptr .. => okRes v
 | _ => none

def opSem (T : Tab) (op : Op) (d : Nat) (ev : Operand → Option AV) (H : Heap) : Option Res :=
 match op with
 | .move x | .assign x => (ev x).bind okRes
 | .pick c a b => opPick (ev c) (ev a) (ev b)
 | .alloc E => opAlloc T E d
 | .box E x => (ev x).bind fun v => opBox T E v d
 | .build t ps => bif fieldsKnown T t then (evalParts ev ps.toList).bind fun l => opBuild T t l else none
 | .buildSlice t n ps => (evalParts ev ps.toList).bind fun l => opBuildSlice T t n l d
 | .load t a => (ev a).bind fun v => opLoad T t v H
 | .binOp op t x y _ => (ev x).bind fun v => (ev y).bind fun u => bif nilConst y then opNil T op t v u else opBin T op t v u
 | .unOp op _ x => (ev x).bind fun v => opUn op v
 | .convert s t x => (ev x).bind fun v => orElseR (opConvert T s t v) (orElseR (opStrOf T s t v H) (opBytesOf T s t v d))
 | .makeInterface t x => bif notIface T t then (ev x).bind fun v => opMakeIface v t else none
 | .makeFunc fn first caps => (evalList ev first.toList).bind fun l => (evalList ev caps.toList).bind fun m => okRes (.func fn l.length (getL l) m.length (getL m))
 | .makeSlice t l c => (ev l).bind fun v => (ev c).bind fun u => opMakeSlice T t v u d
 | .slice t x lo hi none => (ev x).bind fun v => (evalOpt ev lo).bind fun l => (evalOpt ev hi).bind fun h => opSlice T t v l h
 | .slice t x (some lo) (some hi) (some mx) => (ev x).bind fun v => (ev lo).bind fun l => (ev hi).bind fun h => (ev mx).bind fun m => opSlice3 T t v l h m
 | .fieldAddr s x k => (ev x).bind fun v => opFieldAddr T s v k
 | .field s x k => (ev x).bind fun v => opField T s v k
 | .indexAddr t x i => (ev x).bind fun v => (ev i).bind fun u => opIndexAddr T t v u
 | .index t x i => (ev x).bind fun v => (ev i).bind fun u => opIndex T t v u
 | .extract x i => (ev x).bind fun v => opExtract v i
 | .nilCheck x => (ev x).bind opNilCheck
 | .call { callee := .builtin b, args, argTypes } => (evalList ev args.toList).bind fun l => opBuiltin T b argTypes l H d
 | _ => none

section
variable {P : Program} {C : Came} {φ : Names} {M : Blocks} {H : Heap} {U : List Nat} {w : World} {T : Tab}

theorem evalList_sound {ev : Operand → Option AV} {ρ : Operand → Value} (hev : ∀ x v, ev x = some v → Ra φ w M v (ρ x)) : ∀ (l : List Operand) (vs : List AV), evalList ev l = some vs →
  vs.length = l.length ∧ ∀ i, i < l.length → Ra φ w M (getL vs i) ((l.map ρ).toArray.getD i undef) := by
 intro l
 induction l with
 | nil => intro vs h; simp only [evalList, Option.some.injEq] at h; subst h; exact ⟨rfl, fun i hi => absurd hi (by simp)⟩
 | cons x l ih =>
   intro vs h
   simp only [evalList] at h
   split at h
   ·rename_i v m hv hm
    obtain rfl := Option.some.inj h
    obtain ⟨h1, h2⟩ := ih m hm
    refine ⟨by simp [h1], fun i hi => ?_⟩
    cases i with
    | zero => simpa [getL, Array.getD_eq_getD_getElem?] using hev x v hv
    | succ i =>
      have := h2 i (by simpa using hi)
      simpa [getL, Array.getD_eq_getD_getElem?] using this
   ·simp at h

theorem evalParts_sound {ev : Operand → Option AV} {ρ : Operand → Value} (hev : ∀ x v, ev x = some v → Ra φ w M v (ρ x)) : ∀ (l : List (Nat × Operand)) (vs : List (Nat × AV)), evalParts ev l = some vs →
  Parts φ w M vs (l.map fun q => (q.1, ρ q.2)) := by
 intro l
 induction l with
 | nil => intro vs h; simp only [evalParts, Option.some.injEq] at h; subst h; exact ⟨rfl, fun k hk => absurd hk (by simp)⟩
 | cons q l ih =>
   obtain ⟨i, x⟩ := q
   intro vs h
   simp only [evalParts] at h
   split at h
   ·rename_i v m hv hm
    obtain rfl := Option.some.inj h
    obtain ⟨h1, h2⟩ := ih m hm
    refine ⟨by simp [h1], fun k hk => ?_⟩
    cases k with
    | zero => exact ⟨(i, v), (i, ρ x), rfl, rfl, hev x v hv⟩
    | succ k =>
      obtain ⟨a, b, e1, e2, e3⟩ := h2 k (by simpa using hk)
      exact ⟨a, b, by simpa using e1, by simpa using e2, e3⟩
   ·simp at h

theorem Does.value {s : Sem Value} {r : Res} (h : Does P C φ M H U w s r) {e : Sem Next} (he : e = (do pure (.value (← s)))) : r.obl → ∃ x w' φ', e.run P w = .ok (.value x) w' ∧ (∀ i g b, φ i g = some b → φ' i g = some b) ∧
  (∀ b, M b → w'.heap[b]? = w.heap[b]?) ∧ (∀ b, bsize w b ≤ bsize w' b) ∧ Mem C φ' M (r.eff.heap H) (r.eff.used U) w' ∧ Ra φ' w' M r.v x := by
 intro ho
 obtain ⟨x, w', φ', h1, h2⟩ := h ho
 exact ⟨x, w', φ', by rw [he, Sem.run_bind, h1]; rfl, h2⟩

set_option maxHeartbeats 2000000 in
theorem opSem_sound (hT : T.ok P = true) (hm : Mem C φ M H U w) {o : Oper} {d : Nat} {ev : Operand → Option AV} {ρ : Operand → Value} (hev : ∀ x v, ev x = some v → Ra φ w M v (ρ x)) {r : Res}
  (h : opSem T o.op d ev H = some r) (hfit : r.eff.fits U) : r.obl → ∃ x w' φ', (execOp ρ o).run P w = .ok (.value x) w' ∧ (∀ i g b, φ i g = some b → φ' i g = some b) ∧
  (∀ b, M b → w'.heap[b]? = w.heap[b]?) ∧ (∀ b, bsize w b ≤ bsize w' b) ∧ Mem C φ' M (r.eff.heap H) (r.eff.used U) w' ∧ Ra φ' w' M r.v x := by
 obtain ⟨dst, op, type, pos, after, guard⟩ := o
 simp only [opSem] at h
 split at h
 ·rename_i x
  obtain ⟨v, hv, hr⟩ := Option.bind_eq_some_iff.mp h
  exact ((Pure.ok (P := P) (s := pure (ρ x)) hr (ρ x) rfl (hev _ _ hv)).does hm).value rfl
 ·rename_i x
  obtain ⟨v, hv, hr⟩ := Option.bind_eq_some_iff.mp h
  exact ((Pure.ok (P := P) (s := pure (ρ x)) hr (ρ x) rfl (hev _ _ hv)).does hm).value rfl
 ·rename_i c a b
  unfold opPick at h
  split at h
  ·rename_i hc
   obtain hc := (hev _ _ hc).bool
   split at h
   ·rename_i v hv
    refine ((Pure.ok (P := P) (s := do if ← asBool (ρ c) then pure (ρ a) else pure (ρ b)) h (ρ a) ?_ (hev _ _ hv)).does hm).value ?_
    ·simp [hc, asBool]
    ·simp [execOp, hc, asBool]
   ·simp at h
  ·rename_i hc
   obtain hc := (hev _ _ hc).bool
   split at h
   ·rename_i v hv
    refine ((Pure.ok (P := P) (s := do if ← asBool (ρ c) then pure (ρ a) else pure (ρ b)) h (ρ b) ?_ (hev _ _ hv)).does hm).value ?_
    ·simp [hc, asBool]
    ·simp [execOp, hc, asBool]
   ·simp at h
  ·simp at h
 ·have hd : d ∉ U := by
   unfold opAlloc at h
   split at h
   ·obtain rfl := Option.some.inj h; exact hfit
   ·simp at h
  exact (opAlloc_does hT hm hd h).value rfl
 ·rename_i E x
  obtain ⟨v, hv, hr⟩ := Option.bind_eq_some_iff.mp h
  have hd : d ∉ U := by
   unfold opBox at hr
   split at hr
   ·split at hr
    ·obtain rfl := Option.some.inj hr; exact hfit
    ·simp at hr
   ·simp at hr
  exact (opBox_does hT hm hd hr (hev _ _ hv)).value rfl
 ·rename_i t ps
  cases hk : fieldsKnown T t with
  | false => rw [hk] at h; simp at h
  | true =>
    rw [hk] at h
    simp only [cond_true] at h
    obtain ⟨l, hl, hr⟩ := Option.bind_eq_some_iff.mp h
    have hp := evalParts_sound hev _ _ hl
    refine ((opBuild_pure hT (vals := ps.map fun q => (q.1, ρ q.2)) (fun ti fs h1 h2 q hq => ?_) hr (by simpa using hp)).does hm).value rfl
    unfold fieldsKnown at hk
    rw [h1] at hk
    cases ti
    simp only at h2
    subst h2
    simp only [List.all_eq_true] at hk
    exact hk q hq
 ·rename_i t n ps
  obtain ⟨l, hl, hr⟩ := Option.bind_eq_some_iff.mp h
  have hp := evalParts_sound hev _ _ hl
  have hd : d ∉ U := by
   unfold opBuildSlice at hr
   split at hr
   ·split at hr
    ·rename_i ei _
     cases hb : (Nat.ble (n * ei.size) 16777216 && !Nat.beq ei.size 0) with
     | false => rw [hb] at hr; simp at hr
     | true =>
       rw [hb] at hr
       simp only [cond_true] at hr
       split at hr
       ·obtain rfl := Option.some.inj hr; exact hfit
       ·simp at hr
    ·simp at hr
   ·simp at hr
  exact (opBuildSlice_does hT hm (vals := ps.map fun q => (q.1, ρ q.2)) hd hr (by simpa using hp)).value rfl
 ·obtain ⟨v, hv, hr⟩ := Option.bind_eq_some_iff.mp h
  exact ((opLoad_pure hT hm.heap hr (hev _ _ hv)).does hm).value rfl
 ·rename_i bop t x y yT
  obtain ⟨v, hv, h⟩ := Option.bind_eq_some_iff.mp h
  obtain ⟨u, hu, hr⟩ := Option.bind_eq_some_iff.mp h
  cases hnc : nilConst y with
  | true =>
    rw [hnc] at hr
    obtain ⟨hp, hg⟩ := opNil_pure (x := x) hT hr (hev _ _ hv) (hev _ _ hu) hnc
    intro ho
    obtain ⟨x', h1, h2⟩ := hp.2 ho
    rw [hp.1]
    refine ⟨x', w, φ, ?_, fun _ _ _ h => h, fun _ _ => rfl, fun _ => Nat.le_refl _, hm, h2⟩
    simp [execOp, hg, h1]
  | false =>
  rw [hnc] at hr
  have hp := opBin_pure hT hr (hev _ _ hv) (hev _ _ hu)
  have hg := opBin_guard (P := P) hT hr (hev _ _ hv) (hev _ _ hu) x y
  intro ho
  obtain ⟨x', h1, h2⟩ := hp.2 ho
  rw [hp.1]
  refine ⟨x', w, φ, ?_, fun _ _ _ h => h, fun _ _ => rfl, fun _ => Nat.le_refl _, hm, h2⟩
  simp [execOp, hg, h1]
 ·obtain ⟨v, hv, hr⟩ := Option.bind_eq_some_iff.mp h
  exact ((opUn_pure hr (hev _ _ hv)).does hm).value rfl
 ·rename_i s t x
  obtain ⟨v, hv, hr⟩ := Option.bind_eq_some_iff.mp h
  unfold orElseR at hr
  split at hr
  ·rename_i r1 h1
   obtain rfl := Option.some.inj hr
   exact ((opConvert_pure hT h1 (hev _ _ hv)).does hm).value rfl
  ·split at hr
   ·rename_i r1 h1
    obtain rfl := Option.some.inj hr
    exact ((opStrOf_pure hT hm h1 (hev _ _ hv)).does hm).value rfl
   ·have hd : d ∉ U := by
     unfold opBytesOf at hr
     split at hr
     ·split at hr
      ·obtain rfl := Option.some.inj hr; exact hfit
      ·simp at hr
     ·simp at hr
    exact (opBytesOf_does hT hm hd hr (hev _ _ hv)).value rfl
 ·rename_i t x
  cases hk : notIface T t with
  | false => rw [hk] at h; simp at h
  | true =>
    rw [hk] at h
    simp only [cond_true] at h
    obtain ⟨v, hv, hr⟩ := Option.bind_eq_some_iff.mp h
    unfold notIface at hk
    split at hk
    ·rename_i ti hti
     refine ((opMakeIface_pure hT hti ?_ hr (hev _ _ hv)).does hm).value rfl
     cases hkk : ti.kind <;> simp_all [TK.is]
    ·simp at hk
 ·rename_i fn first caps
  obtain ⟨l, hl, h⟩ := Option.bind_eq_some_iff.mp h
  obtain ⟨m, hmm, hr⟩ := Option.bind_eq_some_iff.mp h
  obtain ⟨e1, e2⟩ := evalList_sound hev _ _ hl
  obtain ⟨e3, e4⟩ := evalList_sound hev _ _ hmm
  refine ((Pure.ok (P := P) (s := Instr.makeFunc fn (first.map ρ) (caps.map ρ)) hr (.func fn (first.map ρ) (caps.map ρ)) rfl (.func _ _ _ _ _ _ _ (by simp [e1]) (by simp [e3]) (fun i hi => ?_) (fun i hi => ?_))).does hm).value rfl
  ·have := e2 i (by omega); simpa using this
  ·have := e4 i (by omega); simpa using this
 ·obtain ⟨v, hv, h⟩ := Option.bind_eq_some_iff.mp h
  obtain ⟨u, hu, hr⟩ := Option.bind_eq_some_iff.mp h
  have hd : d ∉ U := by
   unfold opMakeSlice at hr
   split at hr
   ·split at hr
    ·rename_i ei _
     cases hb : Nat.beq ei.size 0 with
     | true => rw [hb] at hr; simp at hr
     | false => rw [hb] at hr; obtain rfl := Option.some.inj hr; exact hfit
    ·simp at hr
   ·simp at hr
  exact (opMakeSlice_does hT hm hd hr (hev _ _ hv) (hev _ _ hu)).value rfl
 ·rename_i t x lo hi
  obtain ⟨v, hv, h⟩ := Option.bind_eq_some_iff.mp h
  obtain ⟨l, hl, h⟩ := Option.bind_eq_some_iff.mp h
  obtain ⟨k, hk, hr⟩ := Option.bind_eq_some_iff.mp h
  have opt : ∀ (x : Option Operand) (l : Option AV), evalOpt ev x = some l → (∀ v, l = some v → ∃ y, x.map ρ = some y ∧ Ra φ w M v y) ∧ (l = none → x.map ρ = none) := by
   intro x l h
   cases x with
   | none => simp only [evalOpt, Option.some.injEq] at h; subst h; exact ⟨fun v hv => (by cases hv), fun _ => rfl⟩
   | some x =>
     simp only [evalOpt] at h
     split at h
     ·rename_i v hv
      obtain rfl := Option.some.inj h
      exact ⟨fun u hu => by obtain rfl := Option.some.inj hu; exact ⟨_, rfl, hev _ _ hv⟩, fun h => by cases h⟩
     ·simp at h
  exact ((opSlice_pure hT hr (hev _ _ hv) (opt _ _ hl).1 (opt _ _ hl).2 (opt _ _ hk).1 (opt _ _ hk).2).does hm).value rfl
 ·obtain ⟨v, hv, h⟩ := Option.bind_eq_some_iff.mp h
  obtain ⟨l, hl, h⟩ := Option.bind_eq_some_iff.mp h
  obtain ⟨k, hk, h⟩ := Option.bind_eq_some_iff.mp h
  obtain ⟨m, hmx, hr⟩ := Option.bind_eq_some_iff.mp h
  exact ((opSlice3_pure hT hr (hev _ _ hv) (hev _ _ hl) (hev _ _ hk) (hev _ _ hmx)).does hm).value rfl
 ·obtain ⟨v, hv, hr⟩ := Option.bind_eq_some_iff.mp h
  exact ((opFieldAddr_pure hT hr (hev _ _ hv)).does hm).value rfl
 ·obtain ⟨v, hv, hr⟩ := Option.bind_eq_some_iff.mp h
  exact ((opField_pure hT hr (hev _ _ hv)).does hm).value rfl
 ·obtain ⟨v, hv, h⟩ := Option.bind_eq_some_iff.mp h
  obtain ⟨u, hu, hr⟩ := Option.bind_eq_some_iff.mp h
  exact ((opIndexAddr_pure hT hr (hev _ _ hv) (hev _ _ hu)).does hm).value rfl
 ·obtain ⟨v, hv, h⟩ := Option.bind_eq_some_iff.mp h
  obtain ⟨u, hu, hr⟩ := Option.bind_eq_some_iff.mp h
  exact ((opIndex_pure hT hr (hev _ _ hv) (hev _ _ hu)).does hm).value rfl
 ·obtain ⟨v, hv, hr⟩ := Option.bind_eq_some_iff.mp h
  exact ((opExtract_pure hr (hev _ _ hv)).does hm).value rfl
 ·rename_i x
  obtain ⟨v, hv, hr⟩ := Option.bind_eq_some_iff.mp h
  have hx := hev _ _ hv
  unfold opNilCheck at hr
  have he : (∃ a, ρ x = .pointer (some a)) → (execOp ρ (⟨dst, .nilCheck x, type, pos, after, guard⟩ : Oper)) = (do pure (.value (← pure (ρ x)))) := by
   rintro ⟨a, ha⟩
   simp [execOp, ha]
  split at hr
  ·refine ((Pure.ok (P := P) (s := pure (ρ x)) hr (ρ x) rfl hx).does hm).value (he ?_)
   generalize ρ x = y at hx
   cases hx with
   | ptr _ _ _ _ _ b _ => exact ⟨_, rfl⟩
  ·refine ((Pure.ok (P := P) (s := pure (ρ x)) hr (ρ x) rfl hx).does hm).value (he ?_)
   generalize ρ x = y at hx
   cases hx with
   | rptr => exact ⟨_, rfl⟩
  ·cases hr
 ·rename_i b args argTypes
  obtain ⟨l, hl, hr⟩ := Option.bind_eq_some_iff.mp h
  obtain ⟨e1, e2⟩ := evalList_sound hev _ _ hl
  unfold opBuiltin at hr
  have two : ∀ a b : AV, l = [a, b] → ∃ x y, args.map ρ = #[x, y] ∧ Ra φ w M a x ∧ Ra φ w M b y := by
   intro a b hl
   subst hl
   have hs : args.toList.length = 2 := e1.symm
   obtain ⟨x, y, hxy⟩ : ∃ x y, args.toList = [x, y] := by
    match args.toList, hs with
    | [x, y], _ => exact ⟨x, y, rfl⟩
   have ha : args = #[x, y] := by rw [← Array.toArray_toList (xs := args), hxy]
   have h0 := e2 0 (by omega)
   have h1 := e2 1 (by omega)
   subst ha
   exact ⟨ρ x, ρ y, by simp, by simpa [getL] using h0, by simpa [getL] using h1⟩
  split at hr
  ·rename_i t x hts
   have ht : argTypes = #[t] := by rw [← Array.toArray_toList (xs := argTypes), hts]
   have hs : args.toList.length = 1 := e1.symm
   obtain ⟨y, hy⟩ : ∃ y, args.toList = [y] := by
    match args.toList, hs with
    | [y], _ => exact ⟨y, rfl⟩
   have ha : args = #[y] := by rw [← Array.toArray_toList (xs := args), hy]
   have h0 := e2 0 (by omega)
   subst ha; subst ht
   have h0' : Ra φ w M x (ρ y) := by simpa [getL] using h0
   exact ((opLen_pure (ty := type) hT hr h0').does hm).value (by simp [execOp, resolve, invoke, builtin])
  ·obtain ⟨x', y', ha, hx, hy⟩ := two _ _ rfl
   exact ((opMax_pure (ts := argTypes) (ty := type) hr hx hy).does hm).value (by simp [execOp, resolve, invoke, builtin, ha])
  ·obtain ⟨x', y', ha, hx, hy⟩ := two _ _ rfl
   exact ((opMin_pure (ts := argTypes) (ty := type) hr hx hy).does hm).value (by simp [execOp, resolve, invoke, builtin, ha])
  ·rename_i s t x y hts
   have ht : argTypes = #[s, t] := by rw [← Array.toArray_toList (xs := argTypes), hts]
   obtain ⟨x', y', ha, hx, hy⟩ := two _ _ rfl
   subst ht
   exact (opAppend_does (ty := type) hT hm hr hfit hx hy).value (by simp [execOp, resolve, invoke, builtin, ha])
  ·simp at hr
 ·simp at h

end

inductive AExit where
 | normal
 | exit (i : Nat)
 | ret
 | panic (v : AV)

abbrev APost := AExit → ASt → Prop

def fen (rd : Option Nat) : Fence := { Fence.wide with round := rd }

def FlatAre (x : List AV) (vals : Array Value) : Prop :=
 vals.size = x.length ∧ ∀ i, i < x.length → ∀ φ w M, Ra φ w M (getL x i) (vals.getD i undef)

def EnvM (P : Program) (w : World) (M : Blocks) : Prop :=
 ∀ g, P.globalNamed "internal/strconv.uint64pow10" = some g → M g ∧ g < w.heap.size ∧ Lib.TabIs P w "internal/strconv.uint64pow10" .u64 Lib.pow10Tab
def EnvOK (P : Program) (C : Came) : Prop := EnvM P C.w C.M ∧ ∀ g, P.globalNamed "internal/strconv.uint64pow10" = some g → ¬ C.own g

theorem EnvM.go {P : Program} {w w' : World} {M M' : Blocks} (h : EnvM P w M) (hM : ∀ b, M b → M' b) (hw : ∀ b, M b → b < w.heap.size → w'.heap[b]? = w.heap[b]?) (hs : w.heap.size ≤ w'.heap.size) : EnvM P w' M' := by
 intro g hg
 obtain ⟨h1, h2, h3⟩ := h g hg
 refine ⟨hM g h1, Nat.lt_of_lt_of_le h2 hs, ?_⟩
 unfold Lib.TabIs World.var? at h3 ⊢
 rw [hg] at h3 ⊢
 simp only [Option.bind_some] at h3 ⊢
 rw [hw g h1 h2]
 exact h3
theorem EnvOK.at {P : Program} {C : Came} {φ : Names} {M : Blocks} {H : Heap} {U : List Nat} {w : World} (h : EnvOK P C) (hm : Mem C φ M H U w) : EnvM P w M := by
 intro g hg
 obtain ⟨h1, h2, h3⟩ := h.1 g hg
 refine ⟨hm.keeps g h1, Nat.lt_of_lt_of_le h2 hm.size, ?_⟩
 unfold Lib.TabIs World.var? at h3 ⊢
 rw [hg] at h3 ⊢
 simp only [Option.bind_some] at h3 ⊢
 rw [hm.frame g h2 (h.2 g hg)]
 exact h3
theorem EnvM.ok {P : Program} {w : World} {M own no : Blocks} (h : EnvM P w M) (ho : ∀ b, M b → ¬ own b) : EnvOK P ⟨w, own, M, no⟩ :=
 ⟨h, fun g hg => ho g (h g hg).1⟩

def Ctx.ok (K : Ctx) (P : Program) : Prop := (∀ log stop C, K.Γ log stop C → EnvOK P C) ∧
 ∀ l, K.yl = some l → ∀ pre x vals C φ M H U W, K.Γ pre false C → Mem C φ M H U W → K.valid (pre ++ [x]) → FlatAre x vals → YieldAt Fence.wide 0 P l vals W fun e W' =>
  ∃ stop C', e = .returned (.bool (!stop)) ∧ K.Γ (pre ++ [x]) stop C' ∧ Mem C' φ M H U W' ∧ (∀ b, M b → W'.heap[b]? = W.heap[b]?) ∧ (∀ b, bsize W b ≤ bsize W' b) ∧ (∀ b, C.own b ∨ C.w.heap.size ≤ b → b < W.heap.size → C'.own b)

def QC (K : Ctx) (Q : APost) : Exit → Act → World → Prop := fun e a w => ∃ st φ M, Good K φ M st a w ∧
 match e with
 | .normal => Q .normal st
 | .exit i => Q (.exit i) st
 | .ret => Q .ret st
 | .panic ch => ∃ v x, ch = [{ v := x, recovered := false }] ∧ Ra φ w M v x ∧ Q (.panic v) st
 | _ => False

def AWP (P : Program) (c : Code) (Q : APost) (st : ASt) : Prop :=
 ∀ K φ M a w, K.ok P → Good K φ M st a w → c.wpIn (fen K.rd) 0 P (QC K Q) a w

theorem QC.mono {K : Ctx} {Q Q' : APost} (h : ∀ e s, Q e s → Q' e s) {e : Exit} {a : Act} {w : World} (hq : QC K Q e a w) : QC K Q' e a w := by
 obtain ⟨st, φ, M, hg, hq⟩ := hq
 refine ⟨st, φ, M, hg, ?_⟩
 cases e with
 | panic ch => obtain ⟨v, x, h1, h2, h3⟩ := hq; exact ⟨v, x, h1, h2, h _ _ h3⟩
 | normal => exact h _ _ hq
 | exit i => exact h _ _ hq
 | ret => exact h _ _ hq
 | goto l => exact hq
 | outgrown => exact hq

theorem AWP.mono {P : Program} {c : Code} {Q Q' : APost} {st : ASt} (h : AWP P c Q st) (hq : ∀ e s, Q e s → Q' e s) : AWP P c Q' st :=
 fun K φ M a w hK hg => wpIn_mono (h K φ M a w hK hg) fun _ _ _ => QC.mono hq

def SubS (st st' : ASt) : Prop := ∀ K φ M a w, Good K φ M st a w → ∃ φ' M', Good K φ' M' st' a w
theorem SubS.trans {a b c : ASt} (h : SubS a b) (h' : SubS b c) : SubS a c := fun C φ M x w hg => by
 obtain ⟨φ', M', hg'⟩ := h C φ M x w hg
 exact h' C φ' M' x w hg'
theorem AWP.sub {P : Program} {c : Code} {Q : APost} {st st' : ASt} (hs : SubS st st') (h : AWP P c Q st') : AWP P c Q st := fun K φ M a w hK hg => by
 obtain ⟨φ', M', hg'⟩ := hs K φ M a w hg
 exact h K φ' M' a w hK hg'

section
variable {P : Program} {Q : APost} {st : ASt}

theorem awp_skip (h : Q .normal st) : AWP P .skip Q st := fun _ φ M _ _ _ hg => wpIn_skip ⟨st, φ, M, hg, h⟩
theorem awp_exit {i : Nat} (h : Q (.exit i) st) : AWP P (.exit i) Q st := fun _ φ M _ _ _ hg => wpIn_exit ⟨st, φ, M, hg, h⟩
theorem awp_ret (h : Q .ret st) : AWP P .ret Q st := fun _ φ M _ _ _ hg => wpIn_ret ⟨st, φ, M, hg, h⟩

def seqQ (k : ASt → Prop) (Q : APost) : APost := fun e s =>
 match e with
 | .normal => k s
 | .exit i => Q (.exit i) s
 | .ret => Q .ret s
 | .panic v => Q (.panic v) s

theorem seq_post {K : Ctx} {k : ASt → Prop} {next : Act → World → Prop} (hk : ∀ st φ M a w, Good K φ M st a w → k st → next a w) {e : Exit} {a : Act} {w : World} (hq : QC K (seqQ k Q) e a w) :
  Exit.then next (QC K Q) e a w := by
 obtain ⟨st, φ, M, hg, hq⟩ := hq
 cases e with
 | normal => exact hk st φ M a w hg hq
 | exit i => exact ⟨st, φ, M, hg, hq⟩
 | ret => exact ⟨st, φ, M, hg, hq⟩
 | panic ch => exact ⟨st, φ, M, hg, hq⟩
 | goto l => exact hq.elim
 | outgrown => exact hq.elim

theorem awp_seq {x y : Code} (h : AWP P x (seqQ (AWP P y Q) Q) st) : AWP P (.seq x y) Q st := fun K φ M a w hK hg =>
 wpIn_seq (wpIn_mono (h K φ M a w hK hg) fun _ _ _ hq => seq_post (fun _ φ M a w hg hk => hk K φ M a w hK hg) hq)

theorem awp_cond {c : Operand} {x y : Code} {b : Bool} (hc : evalO st.slots c = some (.pv (.bool b))) (hx : b = true → AWP P x Q st) (hy : b = false → AWP P y Q st) : AWP P (.cond c x y) Q st := fun K φ M a w hK hg => by
 have hv := (evalO_sound hg.slots hc).bool
 exact wpIn_cond_split hv (fun h => hx h K φ M a w hK hg) (fun h => hy h K φ M a w hK hg)

def blockQ (i : Nat) (Q : APost) : APost := fun e s =>
 match e with
 | .exit j => bif Nat.beq j i then Q .normal s else Q (.exit j) s
 | .normal => Q .normal s
 | .ret => Q .ret s
 | .panic v => Q (.panic v) s

theorem awp_block {i : Nat} {c : Code} (h : AWP P c (blockQ i Q) st) : AWP P (.block i c) Q st := fun K φ M a w hK hg =>
 wpIn_block (wpIn_mono (h K φ M a w hK hg) fun e a w hq => by
  obtain ⟨st, φ, M, hg, hq⟩ := hq
  cases e with
  | normal => exact ⟨st, φ, M, hg, hq⟩
  | exit j =>
    simp only [Exit.inBlock]
    simp only [blockQ] at hq
    by_cases hj : j = i
    ·subst hj
     rw [show Nat.beq j j = true from Nat.beq_refl j] at hq
     rw [if_pos rfl]
     exact ⟨st, φ, M, hg, hq⟩
    ·rw [if_neg hj]
     have hb : Nat.beq j i = false := by
      cases hc : Nat.beq j i with
      | true => exact absurd (Nat.eq_of_beq_eq_true hc) hj
      | false => rfl
     rw [hb] at hq
     exact ⟨st, φ, M, hg, hq⟩
  | ret => exact ⟨st, φ, M, hg, hq⟩
  | panic ch => exact ⟨st, φ, M, hg, hq⟩
  | goto l => exact hq.elim
  | outgrown => exact hq.elim)

theorem awp_loop {c : Code} {α : Type} (S : α → ASt) (μ : α → Nat) (x0 : α) (h0 : SubS st (S x0)) (round : ∀ x, AWP P c (seqQ (fun s => ∃ y, SubS s (S y) ∧ μ y < μ x) Q) (S x)) : AWP P (.loop c) Q st := by
 refine AWP.sub h0 fun K φ M a w hK hg => ?_
 have key : ∀ n x, μ x < n → ∀ φ M a w, Good K φ M (S x) a w → Code.roundsIn (fen K.rd) 0 P c (QC K Q) n a w := by
  intro n
  induction n with
  | zero => intro x hx; omega
  | succ n ih =>
    intro x hx φ M a w hg
    rw [roundsIn_succ]
    refine wpIn_mono (round x K φ M a w hK hg) fun e a w hq => seq_post (fun st φ M a w hg hk => ?_) hq
    obtain ⟨y, hs, hlt⟩ := hk
    obtain ⟨φ', M', hg'⟩ := hs K φ M a w hg
    exact ih y (by omega) φ' M' a w hg'
 exact wpIn_loop_rounds (μ x0 + 1) (key _ x0 (by omega) φ M a w hg)

end

def enters (P : Program) (f : FuncId) : Bool :=
 match P.funcs[f]? with
 | some fn => fn.body.isSome && fn.name != "runtime.NumGoroutine"
 | none => false

def ArgsAre (φ : Names) (w : World) (M : Blocks) (args : List AV) (xs : Array Value) : Prop :=
 xs.size = args.length ∧ ∀ i, i < args.length → Ra φ w M (getL args i) (xs.getD i undef)

def CallK (P : Program) (f : FuncId) (args : List AV) (H : Heap) (U : List Nat) (k kp : AV → Heap → List Nat → Prop) : Prop :=
 ∀ C φ M w xs, EnvOK P C → Mem C φ M H U w → ArgsAre φ w M args xs → enters P f = true ∧ Calls P f xs w fun e w' =>
  ∃ φ' M' H' U', (∀ i g b, φ i g = some b → φ' i g = some b) ∧ (∀ b, M b → M' b) ∧ (∀ b, M b → w'.heap[b]? = w.heap[b]?) ∧ (∀ b, bsize w b ≤ bsize w' b) ∧ Mem C φ' M' H' U' w' ∧
   match e with
   | .returned x => ∃ r, Ra φ' w' M' r x ∧ k r H' U'
   | .panicked ch => ∃ r x, ch = [{ v := x, recovered := false }] ∧ Ra φ' w' M' r x ∧ kp r H' U'
   | .outgrown => False

def memN (n : Nat) : List Nat → Bool
 | [] => false
 | m :: l => Nat.beq n m || memN n l
theorem memN_of {n : Nat} {l : List Nat} (h : memN n l = false) : n ∉ l := by
 induction l with
 | nil => simp
 | cons m l ih =>
   simp only [memN, Bool.or_eq_false_iff] at h
   intro hm
   rcases List.mem_cons.mp hm with rfl | hm
   ·simp at h
   ·exact ih h.2 hm

def Eff.okb (e : Eff) (U : List Nat) : Bool :=
 match e with
 | .new id _ => !memN id U
 | _ => true
def ASt.put (st : ASt) (d : Nat) (v : AV) : ASt := { st with slots := updF st.slots d v }
def ASt.kill (st : ASt) (d : Option Nat) : ASt :=
 match d with
 | some d => { st with slots := fun t => bif Nat.beq t d then none else st.slots t }
 | none => st
def undefA : AV := .tup 0 fun _ => .nilS
def passF (nt : Nat) (s : Nat → Option AV) (d : Option Nat) : Nat → Option AV :=
 match d with
 | some d => fun t => bif Nat.beq t d then (bif Nat.ble (d + 1) nt then some undefA else none) else s t
 | none => s
def inTmps (d : Option Nat) (n : Nat) : Bool :=
 match d with
 | some d => Nat.ble (d + 1) n
 | none => true

def PV.flatV : PV → Bool
 | .seq .. => false
 | .agg n f => allN (fun i => (f i).flatV) n
 | .ifc _ p => p.flatV
 | _ => true
def AV.flatV : AV → Bool
 | .pv p => p.flatV
 | .agg n f => allN (fun i => (f i).flatV) n
 | _ => false

structure Obl (p : Prop) : Prop where
 out : p

def oblK (p : Option Prop) (k : Prop) : Prop :=
 match p with
 | none => k
 | some p => Obl p ∧ k

def nilOk : AV → Option (Bool → Prop)
 | .nilS => some fun b => b = true
 | .pv (.seq _ _ n _) => some fun b => 0 < n → b = false
 | .row _ _ _ _ len => some fun b => 0 < len → b = false
 | _ => none
def nilAsk (op : BinOp) (S : Bool → Prop) : Option (AV → Prop) :=
 match op with
 | .eql => some fun v => ∃ b, S b ∧ v = .pv (.bool b)
 | .neq => some fun v => ∃ b, S b ∧ v = .pv (.bool (!b))
 | _ => none
def isNilS : Option AV → Bool
 | some .nilS => true
 | _ => false
def opAny (T : Tab) (op : Op) (ev : Operand → Option AV) : Option (AV → Prop) :=
 match op with
 | .binOp bop t x y _ =>
   match T.get t with
   | some ⟨.slice _, _, _, _⟩ =>
     bif isNilS (ev y) then ((ev x).bind nilOk).bind (nilAsk bop)
     else bif isNilS (ev x) then ((ev y).bind nilOk).bind (nilAsk bop)
     else none
   | _ => none
 | _ => none

def opNd (T : Tab) (op : Op) (d : Nat) (ev : Operand → Option AV) (H : Heap) (U : List Nat) : Option ((AV → Heap → List Nat → Prop) → Prop) :=
 match op with
 | .makeMap t none =>
   match opMakeMap T t d with
   | some ⟨_, v, .new id ao⟩ => bif memN id U then none else some fun κ => κ v (updF H id ao) (id :: U)
   | _ => none
 | .range t x => (ev x).bind fun v =>
   match opRange T t v H d with
   | some ⟨_, v, .new id ao⟩ => bif memN id U then none else some fun κ => κ v (updF H id ao) (id :: U)
   | _ => none
 | .entry x => (ev x).bind fun v => (opEntry v H).map fun r κ => oblK r.ob (κ r.v H U)
 | .lookup t x i ok => (ev x).bind fun v => (ev i).bind fun u => (opLookup T t v u ok H).map fun F κ => F fun v => κ v H U
 | .typeAssert x _ t true => (ev x).bind fun v => (opAssert T v t).map fun r κ => κ r H U
 | .convert s t x => (ev x).bind fun v => (opMark T s t v H).map fun r κ => κ r H U
 | .next x false => (ev x).bind fun v => (opNext v H).map fun F κ => F fun v H => κ v H U
 | _ => none
def opNd0 (T : Tab) (op : Op) (ev : Operand → Option AV) (H : Heap) : Option ((Heap → Prop) → Prop) :=
 match op with
 | .mapUpdate t m k v => (ev m).bind fun a => (ev k).bind fun b => (ev v).bind fun c => opMapUpd T t a b c H
 | .insert t m k v => (ev m).bind fun a => (ev k).bind fun b => (ev v).bind fun c => opMapUpd T t a b c H
 | _ => none

def getRange (n : Nat) (f : Nat → AV) : List AV := (List.range n).map f
def stepK (P : Program) (T : Tab) (Q : APost) (o : Oper) (st : ASt) (k : ASt → Prop) : Prop :=
 match st with
 | ⟨nt, s, H, U, X⟩ =>
 match o.op with
 | .store t a v =>
   match o.dst, evalO s a, evalO s v with
   | none, some x, some y => match opStore T t x y H with
     | some ⟨ob, _, .upd id ao⟩ => oblK ob (k ⟨nt, s, updF H id ao, U, X⟩)
     | _ => False
   | _, _, _ => False
 | .call { callee := .value f, args, .. } =>
   match evalO s f, evalList (evalO s) args.toList with
   | some (.func (.func g) 0 _ nc caps), some l =>
     match o.dst with
     | none => CallK P g (l ++ (List.range nc).map caps) H U (fun _ H U => k ⟨nt, s, H, U, X⟩) (fun r H U => Q (.panic r) ⟨nt, s, H, U, X⟩)
     | some d => bif Nat.ble (d + 1) nt then CallK P g (l ++ (List.range nc).map caps) H U (fun r H U => k ⟨nt, updF s d r, H, U, X⟩) (fun r H U => Q (.panic r) ⟨nt, s, H, U, X⟩) else False
   | some (.func (.yield y) 0 _ 0 _), some l =>
     Obl (X.yl = some y ∧ X.stop = false ∧ X.valid (X.log ++ [l]) ∧ l.all AV.flatV = true) ∧
     match o.dst with
     | none => ∀ stop, k ⟨nt, s, H, U, { X with log := X.log ++ [l], stop := stop }⟩
     | some d => bif Nat.ble (d + 1) nt then ∀ stop, k ⟨nt, updF s d (.pv (.bool (!stop))), H, U, { X with log := X.log ++ [l], stop := stop }⟩ else False
   | some (.func (.func g) (m + 1) first nc caps), some l =>
     match o.dst with
     | none => CallK P g (getRange (m + 1) first ++ l ++ getRange nc caps) H U (fun _ H U => k ⟨nt, s, H, U, X⟩) (fun r H U => Q (.panic r) ⟨nt, s, H, U, X⟩)
     | some d => bif Nat.ble (d + 1) nt then CallK P g (getRange (m + 1) first ++ l ++ getRange nc caps) H U (fun r H U => k ⟨nt, updF s d r, H, U, X⟩) (fun r H U => Q (.panic r) ⟨nt, s, H, U, X⟩) else False
   | _, _ => False
 | .panic x =>
   match evalO s x with
   | some (.pv (.ifc t p)) => Q (.panic (.pv (.ifc t p))) ⟨nt, s, H, U, X⟩
   | _ => False
 | _ =>
   match o.dst with
   | some d => match opSem T o.op d (evalO s) H with
     | some ⟨ob, v, eff⟩ => bif Nat.ble (d + 1) nt then
        match eff with
        | .none => oblK ob (k ⟨nt, updF s d v, H, U, X⟩)
        | .upd id ao => oblK ob (k ⟨nt, updF s d v, updF H id ao, U, X⟩)
        | .app id ao => oblK ob (k ⟨nt, updF s d v, updF H id ao, U, X⟩)
        | .new id ao => bif memN id U then False else oblK ob (k ⟨nt, updF s d v, updF H id ao, id :: U, X⟩)
       else False
     | none => match opAny T o.op (evalO s) with
       | some S => bif Nat.ble (d + 1) nt then ∀ v, S v → k ⟨nt, updF s d v, H, U, X⟩ else False
       | none => match opNd T o.op d (evalO s) H U with
         | some F => bif Nat.ble (d + 1) nt then F fun v H U => k ⟨nt, updF s d v, H, U, X⟩ else False
         | none => False
   | none => match opNd0 T o.op (evalO s) H with
     | some F => F fun H => k ⟨nt, s, H, U, X⟩
     | none => False

def aops (P : Program) (T : Tab) (ops : List Oper) (Q : APost) : List Nat → ASt → Prop
 | [], st => Q .normal st
 | i :: rest, st =>
   match ops[i]? with
   | none => aops P T ops Q rest st
   | some o =>
     match o.guard with
     | none => stepK P T Q o st (aops P T ops Q rest)
     | some (j, want) =>
       match (ops[j]?).bind (·.dst) with
       | none => False
       | some dj =>
         match st with
         | ⟨nt, s, H, U, X⟩ =>
         match s dj with
         | some (.pv (.bool b)) =>
           (b = want → stepK P T Q o ⟨nt, updF s dj (.pv (.bool want)), H, U, X⟩ (aops P T ops Q rest)) ∧
           (b = (!want) → aops P T ops Q rest ⟨nt, passF nt (updF s dj (.pv (.bool (!want)))) o.dst, H, U, X⟩)
         | some (.tup 0 _) => aops P T ops Q rest ⟨nt, passF nt s o.dst, H, U, X⟩
         | _ => False

end Go.AM
