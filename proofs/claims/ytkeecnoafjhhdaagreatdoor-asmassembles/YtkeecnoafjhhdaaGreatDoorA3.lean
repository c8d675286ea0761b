/- Part of the proof: an abstract machine, and that it is sound. -/
import Derived.Test.YtkeecnoafjhhdaaGreatDoorA2
namespace Go.AM
open Go Go.RowKit

def XK (kp : List Nat) : Ext := { X0 with kp := kp }
def mkStK (n : Nat) (s : List (Nat × AV)) (h : List (Nat × AO)) (kp : List Nat) : ASt := mkStX n s h (XK kp)
def stHK (n : Nat) (args : List AV) (Hin : List (Nat × AO)) : ASt := ⟨n, argS args 0, lookL Hin, keysL Hin, XK (keysL Hin)⟩

theorem keysL_look {α : Type} {l : List (Nat × α)} {i : Nat} (h : memN i (keysL l) = true) : ∃ v, lookL l i = some v := by
 induction l with
 | nil => simp [keysL, memN] at h
 | cons q l ih =>
   obtain ⟨t, v⟩ := q
   simp only [keysL, memN, Bool.or_eq_true] at h
   simp only [lookL]
   cases hb : Nat.beq i t with
   | true => exact ⟨v, rfl⟩
   | false => rcases h with h | h; (rw [hb] at h; cases h); exact ih h
theorem idR_self {α : Type} {U : List Nat} {l : List (Nat × α)} {i : Nat} (hu : memN i U = true) (hk : memN i (keysL l) = true) : lookL (idR U l) i = some i := by
 induction l with
 | nil => simp [keysL, memN] at hk
 | cons q l ih =>
   obtain ⟨t, v⟩ := q
   simp only [keysL, memN, Bool.or_eq_true] at hk
   simp only [idR]
   cases hb : Nat.beq i t with
   | true =>
     obtain rfl := Nat.eq_of_beq_eq_true hb
     rw [hu]; simp [lookL]
   | false =>
     have := ih (hk.resolve_left (by rw [hb]; simp))
     cases hc : memN t U with
     | true => simp only [cond_true, lookL, hb, cond_false]; exact this
     | false => exact this

theorem SubS.mkK {st : ASt} {n : Nat} {s : List (Nat × AV)} {h : List (Nat × AO)} {kp : List Nat} (B : List Nat) (hn : n = st.nt) (hs : AllS st B (idR st.used h) s) (hh : AllH st B (idR st.used h) h)
  (hk : (kp.all fun i => memN i st.used && memN i (keysL h)) = true := by rfl) (hx : st.x = XK kp := by rfl) : SubS st (mkStK n s h kp) :=
 SubS.mkX B hn hs hh ⟨by rw [hx], by rw [hx], by rw [hx], by rw [hx], by rw [hx], by rw [hx], by
  simp only [XK, List.all_eq_true, Bool.and_eq_true] at hk ⊢
  intro i hi
  rw [idR_self (hk i hi).1 (hk i hi).2]
  simp, fun t v' ht => by cases ht⟩
theorem SubS.mkNK {st : ASt} {n : Nat} {s : List (Nat × AV)} {h : List (Nat × AO)} {kp : List Nat} (B : List Nat) (U : List (Nat × Nat)) (hi : injR U = true) (hkk : keysIn U (keysL h) = true) (hn : n = st.nt) (hs : AllS st B U s) (hh : AllH st B U h)
  (hk : (kp.all fun i => match lookL U i with | some j => Nat.beq j i | none => false) = true := by rfl) (hx : st.x = XK kp := by rfl) : SubS st (mkStK n s h kp) :=
 SubS.mkRX B U (injR_out hi) (fun _ _ h => keysIn_out hkk h) hn hs hh ⟨by rw [hx], by rw [hx], by rw [hx], by rw [hx], by rw [hx], by rw [hx], hk, fun t v' ht => by cases ht⟩

def HeapCallK (P : Program) (f : FuncId) (args : List AV) (Hin : List (Nat × AO)) (post postP : AV → List (Nat × AO) → Prop) : Prop :=
 enters P f = true ∧ ∀ (φ : Names) (M N : Blocks) (w : World) (xs : Array Value), Mem ⟨w, ownOf φ (lookL Hin), M, N⟩ φ M (lookL Hin) (keysL Hin) w → EnvM P w M → ArgsAre φ w M args xs → Calls P f xs w fun e w' =>
  ∃ x r Hout φ' M', ((e = .returned x ∧ post r Hout) ∨ (e = .panicked [{ v := x, recovered := false }] ∧ postP r Hout)) ∧ Mem ⟨w, ownOf φ (lookL Hin), M, N⟩ φ' M' (lookL Hout) (keysL Hout) w' ∧ Ra φ' w' M' r x ∧
   ∀ i g b, memN i (keysL Hin) = true → φ i g = some b → φ' i g = some b

def finHK (T : Tab) (rs : List ResultVar) (kp : List Nat) (post postP : AV → List (Nat × AO) → Prop) : APost := fun e st =>
 match e with
 | .normal => finK T rs st fun l => ∃ r Hout, post r Hout ∧ SubS ⟨1, updF (fun _ => none) 0 (pack l), st.heap, st.used, XK kp⟩ (mkStK 1 [(0, r)] Hout kp)
 | .ret => finK T rs st fun l => ∃ r Hout, post r Hout ∧ SubS ⟨1, updF (fun _ => none) 0 (pack l), st.heap, st.used, XK kp⟩ (mkStK 1 [(0, r)] Hout kp)
 | .panic v => v.flatV = true ∧ ∃ r Hout, postP r Hout ∧ SubS ⟨1, updF (fun _ => none) 0 v, st.heap, st.used, XK kp⟩ (mkStK 1 [(0, r)] Hout kp)
 | _ => False

def AV.ren (ρ : Nat → Nat) : AV → AV
 | .row id gen sz off len => .row (ρ id) gen sz off len
 | .ptr id gen sz i off => .ptr (ρ id) gen sz i off
 | .agg n f => .agg n fun i => (f i).ren ρ
 | .tup n f => .tup n fun i => (f i).ren ρ
 | .func fn nf first nc caps => .func fn nf (fun i => (first i).ren ρ) nc (fun i => (caps i).ren ρ)
 | .obj id gen => .obj (ρ id) gen
 | .pv p => .pv p
 | .nilS => .nilS
 | .rptr n f => .rptr n f
 | .nilM => .nilM
def AO.ren (ρ : Nat → Nat) (o : AO) : AO := { o with f := fun i j => (o.f i j).ren ρ }
def swapL : List (Nat × Nat) → List (Nat × Nat)
 | [] => []
 | (i, j) :: l => (j, i) :: swapL l
def renI (U0 : List (Nat × Nat)) (n : Nat) (i : Nat) : Nat :=
 match lookL U0 i with
 | some j => j
 | none => i + n
def joinK (H : Heap) (B : List Nat) (U0 : List (Nat × Nat)) (n : Nat) (Hout : List (Nat × AO)) : Heap := fun i =>
 match lookL (swapL U0) i with
 | some i0 => (lookL Hout i0).map (AO.ren (renI U0 n))
 | none => bif Nat.ble n i then (match lookL U0 (i - n) with
   | some _ => none
   | none => (lookL Hout (i - n)).map (AO.ren (renI U0 n))) else dropH H B i

theorem swapL_look {U : List (Nat × Nat)} {i j : Nat} (h : injR U = true) (hm : (i, j) ∈ U) : lookL (swapL U) j = some i := by
 induction U with
 | nil => simp at hm
 | cons q l ih =>
   obtain ⟨a, c⟩ := q
   simp only [injR, Bool.and_eq_true, List.all_eq_true, Bool.not_eq_true'] at h
   simp only [swapL, lookL]
   rcases List.mem_cons.mp hm with he | hm
   ·injection he with e1 e2; subst e1; subst e2; simp
   ·have hne : Nat.beq j c = false := h.1 _ hm
    rw [hne]; exact ih h.2 hm
theorem swapL_swap : ∀ U : List (Nat × Nat), swapL (swapL U) = U
 | [] => rfl
 | (i, j) :: l => by simp [swapL, swapL_swap l]
theorem olds_none {U : List (Nat × Nat)} {i : Nat} (h : lookL (swapL U) i = none) : memN i (olds U) = false := by
 induction U with
 | nil => rfl
 | cons q l ih =>
   obtain ⟨a, c⟩ := q
   simp only [swapL, lookL] at h
   simp only [olds, memN, Bool.or_eq_false_iff]
   cases hb : Nat.beq i c with
   | true => rw [hb] at h; cases h
   | false => rw [hb] at h; exact ⟨rfl, ih h⟩

section
variable {P : Program} {K : Ctx} {C : Came} {φ φ' : Names} {M M' : Blocks} {H : Heap} {w w' : World} {T : Tab} {st : ASt} {a : Act}

theorem Ra.ren {ρ : Nat → Nat} (h : ∀ i g b, φ i g = some b → φ' (ρ i) g = some b) {v : AV} {x : Value} (hr : Ra φ w M v x) : Ra φ' w M (v.ren ρ) x := by
 induction hr with
 | pv p v h => exact .pv p v h
 | nilS => exact .nilS
 | row id gen sz off len b c h1 h2 h3 => exact .row _ gen sz off len b c (h _ _ _ h1) h2 h3
 | row0 id gen sz off a => exact .row0 _ gen sz off a
 | ptr id gen sz i off b h1 => exact .ptr _ gen sz i off b (h _ _ _ h1)
 | rptr n f b o g h1 h2 h3 h4 => exact .rptr n f b o g h1 h2 h3 h4
 | agg n f cs h1 h2 _ ih => exact .agg n _ cs h1 h2 ih
 | tup n f vs h1 _ ih => exact .tup n _ vs h1 ih
 | func fn nf first nc caps xs ys h1 h2 _ _ ih1 ih2 => exact .func fn nf _ nc _ xs ys h1 h2 ih1 ih2
 | mp id gen b h1 h2 => exact .mp _ gen b h1 (h _ _ _ h2)
 | it id b h1 => exact .it _ b (h _ _ _ h1)
 | nilM => exact .nilM
theorem ObjAt.ren {ρ : Nat → Nat} {o : AO} {q : Option Nat} (hR : ∀ v x, Ra φ w M v x → Ra φ' w M (v.ren ρ) x) (h : ObjAt φ w M o q) : ObjAt φ' w M (o.ren ρ) q := by
 obtain ⟨h0, b, B, h1, h2, h3, h4⟩ := h
 refine ⟨h0, b, B, h1, h2, h3, ?_⟩
 unfold ObjB at h4 ⊢
 split at h4
 ·obtain ⟨g1, g2, g3, g5, g4⟩ := h4
  have hkey : ∀ i, i < o.E → (o.f i 0).ren ρ = o.f i 0 := fun i hi => by
   have k4 := (g4 i _ (Array.getElem?_eq_getElem (i := i) (by rw [g2]; exact hi))).2.2.2
   rcases hg : o.gen with _ | _ | g
   ·rw [hg] at k4; obtain ⟨n, hn⟩ := k4; rw [hn]; rfl
   ·rw [hg] at k4; obtain ⟨n, hn⟩ := k4; rw [hn]; rfl
   ·rw [hg] at k4; exact k4.elim
  refine ⟨g1, g2, g3, fun i j hi hj he => ?_, fun i e he => ?_⟩
  ·replace he : (o.f i 0).ren ρ = (o.f j 0).ren ρ := he
   rw [hkey i hi, hkey j hj] at he
   exact g5 i j hi hj he
  obtain ⟨k1, k2, k3, k4⟩ := g4 i e he
  refine ⟨k1, hR _ _ k2, hR _ _ k3, ?_⟩
  show KeyOk o.gen ((o.f i 0).ren ρ)
  rw [hkey i (by rw [← g2]; exact (Array.getElem?_eq_some_iff.mp he).1)]; exact k4
 ·obtain ⟨g1, g2, g3, g4, g5, g6⟩ := h4
  refine ⟨g1, g2, g3, hR _ _ g4, fun i hi => ?_, fun m hm => ?_⟩
  ·show (o.f i 1).ren ρ = _
   rw [g5 i hi]; rfl
  ·replace hm : (o.f 1 0).ren ρ = .pv (.int .i64 m) := hm
   refine g6 m ?_
   cases hv : o.f 1 0 <;> rw [hv] at hm <;> first | exact hm | cases hm
 ·exact h4.elim

theorem HeapCallK.body {f : FuncId} {fn : Func} {c : Code} {args : List AV} {Hin : List (Nat × AO)} {post postP : AV → List (Nat × AO) → Prop} (hT : T.ok P = true) (hen : enters P f = true) (hf : P.funcs[f]? = some fn) (hb : fn.body = some c) {n : Nat} (hn : fn.ntmps = n)
  {rs : List ResultVar} (hrs : fn.results.toList = rs) (h : AWP P c (finHK T rs (keysL Hin) post postP) (stHK n args Hin)) : HeapCallK P f args Hin post postP := by
 refine ⟨hen, fun φ M N w xs hm he ha => ?_⟩
 refine calls_body hf hb ?_
 obtain ⟨C, hC⟩ : ∃ C : Came, C = ⟨w, ownOf φ (lookL Hin), M, N⟩ := ⟨_, rfl⟩
 have henv : EnvOK P C := by rw [hC]; exact he.ok (fun b hb => hm.notown hb)
 rw [← hC] at hm ⊢
 obtain ⟨K, hK0⟩ : ∃ K : Ctx, K = { KH C with nm := fun i g => if memN i (keysL Hin) = true then φ i g else none } := ⟨_, rfl⟩
 have hK : K.ok P := by subst hK0; exact ⟨fun _ _ C' h => by obtain rfl : C' = _ := h; exact henv, fun l h => by cases h⟩
 have hgood : Good K φ M (stHK n args Hin) { tmps := xs ++ Array.replicate (n - xs.size) undef, defers := [] } w := by
  subst hK0
  refine { slots := fun t v ht => ?_, nms := fun i g b h => ?_, gslots := fun t v ht => (by cases ht), mem := ⟨_, rfl, hm, [], rfl, List.nodup_nil, fun d hd => (by cases hd)⟩, wide := (by simp [stHK]; omega), yl := rfl, valid := rfl, inr := fun h => (by cases h), rdd := fun _ => rfl }
  ·obtain ⟨h1, h2, h3⟩ := argS_get _ _ _ _ ht
   have hlt : t < args.length := by omega
   refine ⟨xs.getD t undef, ?_, by rw [← h3]; exact ha.2 t hlt⟩
   have : t < xs.size := by rw [ha.1]; exact hlt
   simp [Array.getElem?_append, this, Array.getD_eq_getD_getElem?]
  ·replace h : (if memN i (keysL Hin) = true then φ i g else none) = some b := h
   split at h
   ·rename_i hi; exact ⟨h, memN_iff.mp hi⟩
   ·cases h
 rw [hn]
 have hds : K.ds = [] := by rw [hK0]; rfl
 have hrd : K.rd = none := by rw [hK0]; rfl
 have hrun := h K φ M _ w hK hgood
 rw [hrd] at hrun
 refine wpIn_mono (F := fen none) hrun fun e a w' hq => ?_
 obtain ⟨st, φ1, M1, hg, hq⟩ := hq
 have fin : ∀ {φ1 : Names} {M1 : Blocks} {w2 : World} {y : Value} {v r : AV} {Hout : List (Nat × AO)}, Good K φ1 M1 st { tmps := a.tmps, defers := [] } w2 → Ra φ1 w2 M1 v y → SubS ⟨1, updF (fun _ => none) 0 v, st.heap, st.used, XK (keysL Hin)⟩ (mkStK 1 [(0, r)] Hout (keysL Hin)) →
   ∃ φ' M', Mem C φ' M' (lookL Hout) (keysL Hout) w2 ∧ Ra φ' w2 M' r y ∧ ∀ i g b, memN i (keysL Hin) = true → φ i g = some b → φ' i g = some b := by
  intro φ1 M1 w2 y v r Hout hg2 hr hsub
  obtain ⟨C', hC', hm2, _⟩ := hg2.mem
  have hC' : C' = C := by rw [hK0] at hC'; exact hC'
  subst hC'
  have hg1 : Good K φ1 M1 ⟨1, updF (fun _ => none) 0 v, st.heap, st.used, XK (keysL Hin)⟩ { tmps := #[y], defers := [] } w2 := by
   have hn := hg2.nms
   subst hK0
   refine { slots := fun t u ht => ?_, nms := fun i g b h => ⟨(hn i g b h).1, ?_⟩, gslots := fun t v ht => (by cases ht), mem := ⟨_, rfl, hm2, [], rfl, List.nodup_nil, fun d hd => (by cases hd)⟩, wide := Nat.le_refl _, yl := rfl, valid := rfl, inr := fun h => (by cases h), rdd := fun _ => rfl }
   ·by_cases he : t = 0
    ·subst he
     replace ht : updF (fun _ => none) 0 v 0 = some u := ht
     rw [updF_same] at ht
     obtain rfl := Option.some.inj ht
     exact ⟨y, rfl, hr⟩
    ·replace ht : updF (fun _ => none) 0 v t = some u := ht
     rw [updF_ne _ _ he] at ht; cases ht
   ·replace h : (if memN i (keysL Hin) = true then φ i g else none) = some b := h
    split at h
    ·rename_i hi; exact memN_iff.mp hi
    ·cases h
  obtain ⟨φ2, M2, hg3⟩ := hsub _ _ _ _ _ hg1
  obtain ⟨y', hy, hry⟩ := hg3.slots 0 r rfl
  have : y' = y := by simpa using hy.symm
  subst this
  obtain ⟨C'', hC'', hm3, _⟩ := hg3.mem
  have hC'' : C'' = C' := by rw [hK0] at hC''; exact hC''
  subst hC''
  refine ⟨φ2, M2, hm3, hry, fun i g b hi hb => (hg3.nms i g b ?_).1⟩
  rw [hK0]
  show (if memN i (keysL Hin) = true then φ i g else none) = some b
  rw [if_pos hi]; exact hb
 have finN : (finK T rs st fun l => ∃ r Hout, post r Hout ∧ SubS ⟨1, updF (fun _ => none) 0 (pack l), st.heap, st.used, XK (keysL Hin)⟩ (mkStK 1 [(0, r)] Hout (keysL Hin))) → LeavesInM (fen none) 0 P fn a.tmps (fun e w' =>
   ∃ x r Hout φ' M', ((e = .returned x ∧ post r Hout) ∨ (e = .panicked [{ v := x, recovered := false }] ∧ postP r Hout)) ∧ Mem C φ' M' (lookL Hout) (keysL Hout) w' ∧ Ra φ' w' M' r x ∧ ∀ i g b, memN i (keysL Hin) = true → φ i g = some b → φ' i g = some b) a.defers .returning w' := by
  intro hk
  refine leave_marks a.defers w' a rfl hg (fun w2 hg2 => ?_) hds
  obtain ⟨l, ys, ⟨r, Hout, hpost, hsub⟩, h1, h2, h3, h4⟩ := finK_sound hT hg2 _ _ hk
  obtain ⟨x, hx, hr⟩ := results_of hrs h1 h2 h3 h4
  obtain ⟨φ', M', q1, q2, q3⟩ := fin hg2 hr hsub
  exact ⟨x, hx, x, r, Hout, φ', M', .inl ⟨rfl, hpost⟩, q1, q2, q3⟩
 cases e with
 | normal => exact finN hq
 | ret => exact finN hq
 | panic ch =>
   obtain ⟨v, x, rfl, hr, hfl, r, Hout, hpost, hsub⟩ := hq
   refine leave_marksU (by simp) hg fun w2 hg2 => ?_
   rw [hds] at hg2 ⊢
   obtain ⟨φ', M', q1, q2, q3⟩ := fin hg2 (AV.flatV_any hr hfl φ1 w2 M1) hsub
   exact ⟨x, r, Hout, φ', M', .inr ⟨rfl, hpost⟩, q1, q2, q3⟩
 | exit i => exact hq.elim
 | goto l => exact hq.elim
 | outgrown => exact hq.elim

theorem HeapCallK.run {f : FuncId} {fn : Func} {c : Code} {args : List AV} {Hin : List (Nat × AO)} {post postP : AV → List (Nat × AO) → Prop} (hT : T.ok P = true) (hmix : P.follows .mixedOrders = true) (hen : enters P f = true) (hf : P.funcs[f]? = some fn) (hb : fn.body = some c)
  {n : Nat} (hn : fn.ntmps = n) {rs : List ResultVar} (hrs : fn.results.toList = rs) (h : ex P T c (finHK T rs (keysL Hin) post postP) (stHK n args Hin)) : HeapCallK P f args Hin post postP :=
 HeapCallK.body hT hen hf hb hn hrs (ex_sound hT hmix _ _ _ h)

theorem CallK.heapK {f : FuncId} {args args' : List AV} {Hin : List (Nat × AO)} {post postP : AV → List (Nat × AO) → Prop} {U : List Nat} {k kp : AV → Heap → List Nat → Prop} (hp : HeapCallK P f args' Hin post postP) (B : List Nat) (U0 : List (Nat × Nat))
  (hi : injR U0 = true) (hi2 : injR (swapL U0) = true) (hk0 : keysIn U0 (keysL Hin) = true) (ha : ArgsLeR H B U0 args args') (hh : AllH ⟨0, fun _ => none, H, U, X0⟩ B U0 Hin) (n : Nat) (hn : allLt U n = true)
  (hk : ∀ r Hout, post r Hout → k (r.ren (renI U0 n)) (joinK H B U0 n Hout) (addU n Hout U))
  (hkp : ∀ r Hout, postP r Hout → kp (r.ren (renI U0 n)) (joinK H B U0 n Hout) (addU n Hout U)) : CallK P f args H U k kp := by
 intro C φ M w xs henv hm hargs
 obtain ⟨hen, hcall⟩ := hp
 refine ⟨hen, ?_⟩
 have hgood : Good (KH C) φ M ⟨0, fun _ => none, H, U, X0⟩ { tmps := #[], defers := [] } w := { slots := fun _ _ h => (by cases h), gslots := fun _ _ h => (by cases h), nms := fun _ _ _ h => (by cases h), mem := ⟨C, rfl, hm, [], rfl, List.nodup_nil, fun d hd => (by cases hd)⟩, wide := Nat.zero_le _, yl := rfl, valid := rfl, inr := fun h => (by cases h), rdd := fun _ => rfl }
 have hg0 := hgood.mkR (n := 0) (s := []) B U0 (injR_out hi) (fun _ _ h => keysIn_out hk0 h) rfl trivial hh (XLe.zero rfl)
 obtain ⟨C00, hC00, hm0, _⟩ := hg0.mem
 have hC00 : C00 = C := hC00
 rw [hC00] at hm0
 have hbl : ∀ id o b, H id = some o → φ id o.gen = some b → b < w.heap.size := fun id o b h1 h2 => (hm.nlt _ _ _ h2).1
 have hkept : ∀ i0 j, lookL U0 i0 = some j → ∃ o, H j = some o ∧ memN j B = false ∧ j < n := by
  intro i0 j hj
  obtain ⟨o', ho'⟩ := keysL_look (keysIn_out hk0 hj)
  rcases hh.get (lookL_mem ho') with ⟨k1, o, w1, ho, hnb, _⟩ | ⟨hu, _⟩ | ⟨k1, o, w1, ho, hnb, _⟩
  ·rw [hj] at w1; obtain rfl := Option.some.inj w1
   rw [Bool.or_eq_false_iff] at hnb
   exact ⟨o, ho, hnb.1, allLt_out hn (hm.dom _ _ ho)⟩
  ·rw [hj] at hu; cases hu
  ·rw [hj] at w1; obtain rfl := Option.some.inj w1
   exact ⟨o, ho, hnb, allLt_out hn (hm.dom _ _ ho)⟩
 have hown : ∀ b, ownOf (renN U0 φ) (lookL Hin) b → ∃ j o, H j = some o ∧ φ j o.gen = some b ∧ memN j (olds U0) = true ∧ memN j B = false := by
  rintro b ⟨id, o', h1, h2⟩
  simp only [renN] at h2
  split at h2
  ·rename_i j hj
   rcases hh.get (lookL_mem h1) with ⟨k1, o, w1, ho, hnb, _, e2, _⟩ | ⟨hu, _⟩ | ⟨k1, o, w1, ho, hnb, _, e2, _⟩
   ·rw [hj] at w1; obtain rfl := Option.some.inj w1
    rw [Bool.or_eq_false_iff] at hnb
    exact ⟨j, o, ho, by rw [← e2]; exact h2, olds_mem hj, hnb.1⟩
   ·rw [hj] at hu; cases hu
   ·rw [hj] at w1; obtain rfl := Option.some.inj w1
    exact ⟨j, o, ho, by rw [← e2]; exact h2, olds_mem hj, hnb⟩
  ·cases h2
 have hownM : ∀ b, ownOf (renN U0 φ) (lookL Hin) b → ¬ frzM M B H φ b := by
  intro b hb hf
  obtain ⟨j, o, h1, h2, _, h4⟩ := hown b hb
  rcases hf with hf | ⟨id2, o2, k1, k2, k3⟩
  ·exact hm.notown hf ⟨j, o, h1, h2⟩
  ·have := hm.heap.inj _ _ _ _ _ h1 k2 h2 k3
   subst this; rw [h4] at k1; cases k1
 let C0 : Came := ⟨w, ownOf (renN U0 φ) (lookL Hin), frzM M B H φ, C.no⟩
 have hmc : Mem C0 (renN U0 φ) (frzM M B H φ) (lookL Hin) (keysL Hin) w :=
  { heap := hm0.heap, used := hm0.used, dom := hm0.dom, os := rfl, tape := rfl, output := rfl, size := Nat.le_refl _, frame := fun _ _ _ => rfl,
    fresh := fun id o b h1 h2 => .inl ⟨id, o, h1, h2⟩, reads := fun b hb => .inl hb, keeps := fun _ h => h, sizes := fun _ => Nat.le_refl _, nlt := hm0.nlt, far := ⟨hm0.far.1, fun b hb => Nat.lt_of_lt_of_le (hm.far.2 b hb) hm.size⟩ }
 obtain ⟨hl, hv⟩ := ha.get
 have hargs' : ArgsAre (renN U0 φ) w (frzM M B H φ) args' xs := by
  refine ⟨by rw [← hl]; exact hargs.1, fun i hi => ?_⟩
  exact (hv i hi).sound (φ' := renN U0 φ) hm (fun i' j g b hu hb => by simp only [renN, hu]; exact hb) (fun b h => .inl h) (fun id o b h1 h2 h3 => .inr ⟨id, o, h1, h2, h3⟩) (hargs.2 i (by omega))
 refine (hcall (renN U0 φ) (frzM M B H φ) _ w xs hmc ((henv.at hm).go (fun b h => .inl h) (fun _ _ _ => rfl) (Nat.le_refl _)) hargs').mono fun e w' hq => ?_
 obtain ⟨x, r, Hout, φ1, M1, hpost, hm1, hr, hkeep⟩ := hq
 have hUn : ∀ i g b, φ i g = some b → i < n := fun i g b h => allLt_out hn (hm.used i g b h)
 let φ2 : Names := fun i g => match lookL (swapL U0) i with
  | some i0 => φ1 i0 g
  | none => if n ≤ i then φ1 (i - n) g else φ i g
 have hsw : ∀ i0 j, lookL U0 i0 = some j ↔ lookL (swapL U0) j = some i0 := fun i0 j => by
  constructor
  ·intro h; exact swapL_look hi (lookL_mem h)
  ·intro h
   have := swapL_look hi2 (lookL_mem h)
   rwa [swapL_swap] at this
 have h2k : ∀ i0 j, lookL U0 i0 = some j → ∀ g, φ2 j g = φ1 i0 g := fun i0 j h g => by simp only [φ2, (hsw i0 j).mp h]
 have h2n : ∀ i, lookL U0 i = none → ∀ g, φ2 (i + n) g = φ1 i g := fun i h g => by
  have : lookL (swapL U0) (i + n) = none := by
   cases hc : lookL (swapL U0) (i + n) with
   | none => rfl
   | some i0 =>
     obtain ⟨_, _, _, hlt⟩ := hkept _ _ ((hsw _ _).mpr hc)
     omega
  simp only [φ2, this]
  rw [if_pos (by omega), show i + n - n = i by omega]
 have h2s : ∀ i, i < n → lookL (swapL U0) i = none → ∀ g, φ2 i g = φ i g := fun i h h' g => by
  simp only [φ2, h']; rw [if_neg (by omega)]
 have h2r : ∀ i g, φ2 (renI U0 n i) g = φ1 i g := fun i g => by
  unfold renI
  cases hc : lookL U0 i with
  | some j => exact h2k i j hc g
  | none => exact h2n i hc g
 have hφ : ∀ i g b, φ i g = some b → φ2 i g = some b := fun i g b h => by
  cases hc : lookL (swapL U0) i with
  | some i0 =>
    have hj := (hsw i0 i).mpr hc
    rw [h2k i0 i hj]
    refine hkeep i0 g b (keysIn_out hk0 hj) ?_
    simp only [renN, hj]; exact h
  | none => rw [h2s i (hUn i g b h) hc]; exact h
 have hφs : ∀ i g b, φ1 i g = some b → φ2 (renI U0 n i) g = some b := fun i g b h => by rw [h2r]; exact h
 have hMM : ∀ b, M b → M1 b := fun b h => hm1.keeps b (.inl h)
 have hMs : ∀ b, M b → w'.heap[b]? = w.heap[b]? := fun b h => hm1.frame b (hm.heap.mlt b h) (fun ho => hownM b ho (.inl h))
 have hstay : ∀ id o b, memN id (olds U0) = false → H id = some o → φ id o.gen = some b → ¬ ownOf (renN U0 φ) (lookL Hin) b := by
  intro id o b h1 h2 h3 ho
  obtain ⟨j, o2, k1, k2, k3, _⟩ := hown b ho
  have := hm.heap.inj _ _ _ _ _ h2 k1 h3 k2
  subst this; rw [h1] at k3; cases k3
 suffices hmem : Mem C φ2 M1 (joinK H B U0 n Hout) (addU n Hout U) w' by
  rcases hpost with ⟨rfl, hpost⟩ | ⟨rfl, hpost⟩
  ·exact ⟨φ2, M1, _, _, hφ, hMM, hMs, hm1.sizes, hmem, _, hr.ren hφs, hk r Hout hpost⟩
  ·exact ⟨φ2, M1, _, _, hφ, hMM, hMs, hm1.sizes, hmem, _, x, rfl, hr.ren hφs, hkp r Hout hpost⟩
 have hlook : ∀ i o, joinK H B U0 n Hout i = some o → (i < n ∧ memN i B = false ∧ memN i (olds U0) = false ∧ H i = some o ∧ ∀ g, φ2 i g = φ i g) ∨ (∃ i0 o', lookL Hout i0 = some o' ∧ o = o'.ren (renI U0 n) ∧ i = renI U0 n i0) := by
  intro i o h
  simp only [joinK] at h
  split at h
  ·rename_i i0 hi0
   obtain ⟨o', ho', rfl⟩ := Option.map_eq_some_iff.mp h
   exact .inr ⟨i0, o', ho', rfl, by unfold renI; rw [(hsw i0 i).mpr hi0]⟩
  ·rename_i hnone
   cases hb : Nat.ble n i with
   | true =>
     rw [hb] at h
     have hle := Nat.le_of_ble_eq_true hb
     simp only [cond_true] at h
     split at h
     ·cases h
     ·rename_i hn0
      obtain ⟨o', ho', rfl⟩ := Option.map_eq_some_iff.mp h
      exact .inr ⟨i - n, o', ho', rfl, by unfold renI; rw [hn0]; simp only; omega⟩
   | false =>
     rw [hb] at h
     simp only [cond_false] at h
     have hlt : i < n := by
      rcases Nat.lt_or_ge i n with h | h
      ·exact h
      ·rw [Nat.ble_eq_true_of_le h] at hb; cases hb
     rw [dropH_eq] at h
     by_cases hB : memN i B = true
     ·rw [if_pos hB] at h; cases h
     ·rw [if_neg hB] at h
      exact .inl ⟨hlt, by simpa using hB, olds_none hnone, h, h2s i hlt hnone⟩
 refine { heap := { own := ?_, inj := ?_, last := ?_, mlt := hm1.heap.mlt }, used := ?_, dom := ?_, os := hm1.os.trans hm.os, tape := hm1.tape.trans hm.tape, output := hm1.output.trans hm.output, size := Nat.le_trans hm.size hm1.size, frame := ?_, fresh := ?_, reads := ?_, keeps := fun b hb => hMM b (hm.keeps b hb), sizes := fun b => Nat.le_trans (hm.sizes b) (hm1.sizes b), nlt := ?_, far := ?_ }
 ·intro i o ho
  rcases hlook i o ho with ⟨hi, hnb, hno, hoo, hφi⟩ | ⟨i0, o', ho', rfl, rfl⟩
  ·have hnM1 : ∀ b, φ i o.gen = some b → ¬ M b → ¬ M1 b := by
    intro b g1 g5 hM1
    have hb := hbl i o b hoo g1
    have hnotown := hstay i o b hno hoo g1
    rcases hm1.reads b hM1 with (h | ⟨id2, o2, k1, k2, k3⟩) | h | h
    ·exact g5 h
    ·have := hm.heap.inj _ _ _ _ _ hoo k2 g1 k3
     subst this; rw [hnb] at k1; cases k1
    ·exact hnotown h
    ·exact absurd hb (Nat.not_lt.mpr h)
   rcases hm.heap.own i o hoo with ⟨h0, h0'⟩ | ⟨b, arr, fz, g1, g2, g3, g4, g5, g6, g7⟩
   ·refine .inl ⟨h0, ?_⟩
    rw [hφi]
    exact ObjAt.or h0' (fun h => h) (fun _ h => h) (fun b hb hlt _ => hm1.frame b hlt (hstay i o b hno hoo hb)) (fun b hb _ hM => hnM1 b hb hM) (fun _ _ hx => hx.mono hφ hMM hMs hm1.sizes)
   ·have hb := hbl i o b hoo g1
    have hnotown := hstay i o b hno hoo g1
    exact .inr ⟨b, arr, fz, hφ _ _ _ g1, by rw [hm1.frame b hb hnotown]; exact g2, g3, g4, hnM1 b g1 g5, g6, fun p q hp hq => (g7 p q hp hq).mono hφ hMM hMs hm1.sizes⟩
  ·rcases hm1.heap.own _ o' ho' with ⟨h0, h0'⟩ | ⟨b, arr, fz, g1, g2, g3, g4, g5, g6, g7⟩
   ·refine .inl ⟨h0, ?_⟩
    show φ2 _ o'.gen = none ∨ ObjAt φ2 w' M1 (o'.ren _) (φ2 _ o'.gen)
    rw [h2r]
    exact h0'.imp_right (ObjAt.ren fun v x hx => hx.ren hφs)
   ·exact .inr ⟨b, arr, fz, (h2r _ _).trans g1, g2, g3, g4, g5, g6, fun p q hp hq => (g7 p q hp hq).ren hφs⟩
 ·intro i1 i2 o1 o2 b h1 h2 h3 h4
  have cross : ∀ i0 j o o' b, memN j (olds U0) = false → H j = some o → φ j o.gen = some b → lookL Hout i0 = some o' → φ1 i0 o'.gen = some b → False := by
   intro i0 j o o' b hno hoo hb1 ho' hb2
   rcases hm1.fresh _ o' b ho' hb2 with h | h
   ·exact hstay j o b hno hoo hb1 h
   ·have := hbl j o b hoo hb1; exact absurd this (Nat.not_lt.mpr h)
  rcases hlook i1 o1 h1 with ⟨_, _, hn1, k1, e1⟩ | ⟨p1, q1, k1, rfl, rfl⟩
  ·rw [e1] at h3
   rcases hlook i2 o2 h2 with ⟨_, _, hn2, k2, e2⟩ | ⟨p2, q2, k2, rfl, rfl⟩
   ·rw [e2] at h4
    exact hm.heap.inj _ _ _ _ _ k1 k2 h3 h4
   ·exact (cross p2 i1 o1 q2 b hn1 k1 h3 k2 ((h2r _ _).symm.trans h4)).elim
  ·replace h3 := (h2r _ _).symm.trans h3
   rcases hlook i2 o2 h2 with ⟨_, _, hn2, k2, e2⟩ | ⟨p2, q2, k2, rfl, rfl⟩
   ·rw [e2] at h4
    exact (cross p1 i2 o2 q1 b hn2 k2 h4 k1 h3).elim
   ·have := hm1.heap.inj _ _ _ _ _ k1 k2 h3 ((h2r _ _).symm.trans h4)
    rw [this]
 ·intro i o g b ho hgb
  rcases hlook i o ho with ⟨_, _, _, k1, e1⟩ | ⟨p1, q1, k1, rfl, rfl⟩
  ·rw [e1] at hgb; exact hm.heap.last _ _ _ _ k1 hgb
  ·exact hm1.heap.last _ q1 g b k1 ((h2r _ _).symm.trans hgb)
 ·intro i g b hb
  cases hc : lookL (swapL U0) i with
  | some i0 =>
    obtain ⟨o, ho, _⟩ := hkept _ _ ((hsw i0 i).mpr hc)
    exact addU_mem.mpr (.inr (hm.dom _ _ ho))
  | none =>
    by_cases hi : i < n
    ·rw [h2s i hi hc] at hb; exact addU_mem.mpr (.inr (hm.used _ _ _ hb))
    ·simp only [φ2, hc] at hb
     rw [if_pos (by omega)] at hb
     exact addU_mem.mpr (.inl ⟨i - n, memN_iff.mpr (hm1.used _ _ _ hb), by omega⟩)
 ·intro i o ho
  rcases hlook i o ho with ⟨_, _, _, k1, _⟩ | ⟨p1, q1, k1, rfl, rfl⟩
  ·exact addU_mem.mpr (.inr (hm.dom _ _ k1))
  ·unfold renI
   cases hc : lookL U0 p1 with
   | some j =>
     obtain ⟨o, ho, _⟩ := hkept _ _ hc
     exact addU_mem.mpr (.inr (hm.dom _ _ ho))
   | none => exact addU_mem.mpr (.inl ⟨p1, keysL_mem k1, rfl⟩)
 ·intro b hb hown'
  have hlt : b < w.heap.size := Nat.lt_of_lt_of_le hb hm.size
  rw [hm1.frame b hlt ?_]
  ·exact hm.frame b hb hown'
  ·intro ho
   obtain ⟨j, o, k1, k2, _⟩ := hown b ho
   rcases hm.fresh _ _ _ k1 k2 with h | h
   ·exact hown' h
   ·omega
 ·intro i o b ho hb
  rcases hlook i o ho with ⟨_, _, _, k1, e1⟩ | ⟨p1, q1, k1, rfl, rfl⟩
  ·rw [e1] at hb; exact hm.fresh _ _ _ k1 hb
  ·rcases hm1.fresh _ _ _ k1 ((h2r _ _).symm.trans hb) with h | h
   ·obtain ⟨j, o, k1, k2, _⟩ := hown b h
    exact hm.fresh _ _ _ k1 k2
   ·exact .inr (Nat.le_trans hm.size h)
 ·intro b hb
  rcases hm1.reads b hb with (h | ⟨id2, o2, k1, k2, k3⟩) | h | h
  ·exact hm.reads b h
  ·exact .inr (hm.fresh _ _ _ k2 k3)
  ·obtain ⟨j, o, k1, k2, _⟩ := hown b h
   exact .inr (hm.fresh _ _ _ k1 k2)
  ·exact .inr (.inr (Nat.le_trans hm.size h))
 ·intro i g b hb
  cases hc : lookL (swapL U0) i with
  | some i0 =>
    rw [h2k i0 i ((hsw i0 i).mpr hc)] at hb
    exact hm1.nlt _ _ _ hb
  | none =>
    by_cases hi : i < n
    ·rw [h2s i hi hc] at hb; exact ⟨Nat.lt_of_lt_of_le (hm.nlt _ _ _ hb).1 hm1.size, (hm.nlt _ _ _ hb).2⟩
    ·simp only [φ2, hc] at hb
     rw [if_pos (by omega)] at hb
     exact hm1.nlt _ _ _ hb
 ·exact ⟨hm1.far.1, hm.far.2⟩

end

def pureSem (T : Tab) (op : Op) (ev : Operand → Option AV) : Option Res :=
 match op with
 | .load t a => (ev a).bind fun v =>
   match v with
   | .rptr n f => opLoad T t (.rptr n f) fun _ => none
   | _ => none
 | .convert s t x => (ev x).bind fun v => opConvert T s t v
 | .move x => (ev x).bind okRes
 | .assign x => (ev x).bind okRes
 | .binOp op t x y _ => (ev x).bind fun v => (ev y).bind fun u => bif nilConst y then opNil T op t v u else opBin T op t v u
 | .unOp op _ x => (ev x).bind fun v => opUn op v
 | .fieldAddr s x k => (ev x).bind fun v => opFieldAddr T s v k
 | .field s x k => (ev x).bind fun v => opField T s v k
 | .indexAddr t x i => (ev x).bind fun v => (ev i).bind fun u => opIndexAddr T t v u
 | .index t x i => (ev x).bind fun v => (ev i).bind fun u => opIndex T t v u
 | .extract x i => (ev x).bind fun v => opExtract v i
 | .nilCheck x => (ev x).bind opNilCheck
 | .call { callee := .builtin .len, args, argTypes } => (evalList ev args.toList).bind fun l =>
   match argTypes.toList, l with
   | [t], [x] => opLen T t x
   | _, _ => none
 | _ => none

theorem pureSem_sem {T : Tab} {op : Op} {d : Nat} {ev : Operand → Option AV} {r : Res} (h : pureSem T op ev = some r) (H : Heap) : opSem T op d ev H = some r := by
 unfold pureSem at h
 split at h
 ·obtain ⟨v, hv, h⟩ := Option.bind_eq_some_iff.mp h
  simp only [opSem, hv, Option.bind_some]
  split at h
  ·exact h
  ·cases h
 ·obtain ⟨v, hv, h⟩ := Option.bind_eq_some_iff.mp h
  simp only [opSem, hv, Option.bind_some, h, orElseR]
 all_goals first
  | exact h
  | (obtain ⟨l, hl, h⟩ := Option.bind_eq_some_iff.mp h
     simp only [opSem, hl, Option.bind_some]
     split at h
     ·rename_i hts
      simp only [opBuiltin, hts]; exact h
     ·cases h)
  | cases h

theorem pureSem_local {T : Tab} {op : Op} {ev ev' : Operand → Option AV} (h1 : ∀ y ∈ op.operands.toList, ev y = ev' y) : pureSem T op ev = pureSem T op ev' := by
 cases op <;> simp only [pureSem]
 case move x => rw [h1 x (by simp [Op.operands])]
 case assign x => rw [h1 x (by simp [Op.operands])]
 case load t x => rw [h1 x (by simp [Op.operands])]
 case binOp o t x y u => rw [h1 x (by simp [Op.operands]), h1 y (by simp [Op.operands])]
 case unOp o t x => rw [h1 x (by simp [Op.operands])]
 case convert s t x => rw [h1 x (by simp [Op.operands])]
 case fieldAddr t x k => rw [h1 x (by simp [Op.operands])]
 case field t x k => rw [h1 x (by simp [Op.operands])]
 case indexAddr t x i => rw [h1 x (by simp [Op.operands]), h1 i (by simp [Op.operands])]
 case index t x i => rw [h1 x (by simp [Op.operands]), h1 i (by simp [Op.operands])]
 case extract x i => rw [h1 x (by simp [Op.operands])]
 case nilCheck x => rw [h1 x (by simp [Op.operands])]
 case call c =>
  obtain ⟨callee, args, ts⟩ := c
  cases callee with
  | value _ => rfl
  | invoke _ _ => rfl
  | builtin b =>
    have he : evalList ev args.toList = evalList ev' args.toList := evalList_congr (fun y hy => h1 y (by simp [Op.operands, Call.operands]; first | (right; simpa using hy) | simpa using hy))
    cases b <;> first | rfl | (show (evalList ev args.toList).bind _ = (evalList ev' args.toList).bind _; rw [he])

def pureStep (T : Tab) (o : Oper) (st : ASt) (k : ASt → Prop) : Prop :=
 match st with
 | ⟨nt, s, H, U, X⟩ =>
 match o.guard, o.dst with
 | none, some d =>
   match pureSem T o.op (evalO s) with
   | some ⟨ob, v, .none⟩ => bif Nat.ble (d + 1) nt then oblK ob (k ⟨nt, updF s d v, H, U, X⟩) else False
   | _ => False
 | _, _ => False
def floats (y x : Oper) : Bool :=
 match y.dst with
 | some d => (match x.dst with | some e => !Nat.beq d e | none => true) && x.op.operands.toList.all (fun u => match u with | .tmp t => !Nat.beq t d | _ => true) &&
    y.op.operands.toList.all (fun u => match u, x.dst with | .tmp t, some e => !Nat.beq t e | _, _ => true)
 | none => false
def bindsB (x : Oper) (y : Nat) : Bool := x.after.toList.any fun e => Region.binds .any e && Nat.beq e.on y
section
variable {P : Program} {T : Tab} {st : ASt} {Q : APost} {H : Heap} {U : List Nat}

theorem CallK.imp {f : FuncId} {args : List AV} {k kp k' kp' : AV → Heap → List Nat → Prop} (h : CallK P f args H U k kp) (hk : ∀ r H U, k r H U → k' r H U) (hkp : ∀ r H U, kp r H U → kp' r H U) : CallK P f args H U k' kp' := by
 intro C φ M w xs henv hm hargs
 obtain ⟨hen, hc⟩ := h C φ M w xs henv hm hargs
 refine ⟨hen, hc.mono fun e w' hq => ?_⟩
 obtain ⟨φ', M', H', U', q1, q2, q3, q4, q5, q6⟩ := hq
 refine ⟨φ', M', H', U', q1, q2, q3, q4, q5, ?_⟩
 cases e with
 | returned x => obtain ⟨r, h1, h2⟩ := q6; exact ⟨r, h1, hk _ _ _ h2⟩
 | panicked ch => obtain ⟨r, x, h0, h1, h2⟩ := q6; exact ⟨r, x, h0, h1, hkp _ _ _ h2⟩
 | outgrown => exact q6

theorem oblK_imp {ob : Option Prop} {p q : Prop} (h : oblK ob p) (hpq : p → q) : oblK ob q := by
 cases ob with
 | none => exact hpq h
 | some o => exact ⟨h.1, hpq h.2⟩

theorem updF_comm {α : Type} (f : Nat → Option α) {d e : Nat} (v r : α) (h : d ≠ e) : updF (updF f d v) e r = updF (updF f e r) d v := by
 funext t
 by_cases h1 : t = d
 ·subst h1; rw [updF_ne _ _ h, updF_same, updF_same]
 ·by_cases h2 : t = e
  ·subst h2; rw [updF_same, updF_ne _ _ h1, updF_same]
  ·rw [updF_ne _ _ h2, updF_ne _ _ h1, updF_ne _ _ h1, updF_ne _ _ h2]

theorem pureStep_imp {o : Oper} {k k' : ASt → Prop} (h : pureStep T o st k) (hk : ∀ s, k s → k' s) : pureStep T o st k' := by
 obtain ⟨nt, s, H, U, X⟩ := st
 obtain ⟨dst, op, ty, pos, after, guard⟩ := o
 unfold pureStep at h ⊢
 cases guard with
 | some _ => exact h.elim
 | none =>
   cases dst with
   | none => exact h.elim
   | some d =>
     simp only at h ⊢
     cases hr : pureSem T op (evalO s) with
     | none => rw [hr] at h; exact h.elim
     | some r =>
       obtain ⟨ob, v, eff⟩ := r
       rw [hr] at h
       cases eff with
       | none =>
         cases hb : Nat.ble (d + 1) nt with
         | false => simp only [hb, cond_false] at h
         | true => simp only [hb, cond_true] at h ⊢; exact oblK_imp h (hk _)
       | _ => exact h.elim

theorem pureStep_stepK {o : Oper} {k : ASt → Prop} (h : pureStep T o st k) : o.guard = none ∧ stepK P T Q o st k := by
 obtain ⟨nt, s, H, U, X⟩ := st
 obtain ⟨dst, op, ty, pos, after, guard⟩ := o
 unfold pureStep at h
 simp only at h
 cases guard with
 | some _ => exact h.elim
 | none =>
 cases dst with
 | none => exact h.elim
 | some d =>
   simp only at h
   refine ⟨rfl, ?_⟩
   split at h
   ·rename_i ob v hr
    have hs := pureSem_sem (d := d) hr H
    have goal : (match opSem T op d (evalO s) H with
     | some ⟨ob, v, eff⟩ => bif Nat.ble (d + 1) nt then
        match eff with
        | .none => oblK ob (k ⟨nt, updF s d v, H, U, X⟩)
        | .upd id ao => oblK ob (k ⟨nt, updF s d v, updF H id ao, U, X⟩)
        | .app id ao => oblK ob (k ⟨nt, updF s d v, updF H id ao, U, X⟩)
        | .new id ao => bif memN id U then False else oblK ob (k ⟨nt, updF s d v, updF H id ao, id :: U, X⟩)
       else False
     | none => match opAny T op (evalO s) with
       | some S => bif Nat.ble (d + 1) nt then ∀ v, S v → k ⟨nt, updF s d v, H, U, X⟩ else False
       | none => match opNd T op d (evalO s) H U with
         | some F => bif Nat.ble (d + 1) nt then F fun v H U => k ⟨nt, updF s d v, H, U, X⟩ else False
         | none => False) := by
     rw [hs]; exact h
    cases op <;> first
     | exact goal
     | (rename_i c; obtain ⟨callee, cargs, cts⟩ := c; cases callee <;> first | exact goal | (simp [pureSem] at hr))
     | (simp [pureSem] at hr)
   ·exact h.elim

theorem evalO_ne {s : Nat → Option AV} {d : Nat} {v : AV} {u : Operand} (h : (match u with | .tmp t => !Nat.beq t d | _ => true) = true) : evalO (updF s d v) u = evalO s u := by
 cases u with
 | tmp t =>
   simp only [Bool.not_eq_true'] at h
   simp only [evalO]
   rw [updF_ne]
   intro e; subst e; rw [Nat.beq_refl] at h; cases h
 | _ => rfl

theorem awp_pieceM (hT : T.ok P = true) (hmix : P.follows .mixedOrders = true) {x y : Code} (S : ASt) (F : Prop) (h : ∀ K : ASt → Prop, (∀ s, F → SubS s S → K s) → ex P T x (seqQ K Q) st) (hr : F → AWP P y Q S) : AWP P (.seq x y) Q st :=
 awp_piece hT hmix (h _ fun _ hF hs => AWP.sub hs (hr hF))
theorem awp_pieceX (hT : T.ok P = true) (hmix : P.follows .mixedOrders = true) {x y : Code} {α : Type} (S : α → ASt) (F : α → Prop) (h : ∀ K : ASt → Prop, (∀ s a, F a → SubS s (S a) → K s) → ex P T x (seqQ K Q) st) (hr : ∀ a, F a → AWP P y Q (S a)) : AWP P (.seq x y) Q st :=
 awp_piece hT hmix (h _ fun _ a hF hs => AWP.sub hs (hr a hF))
theorem awp_cut {x y : Code} {α : Type} (S : α → ASt) (F : α → Prop) (h : ∀ K : ASt → Prop, (∀ s a, F a → SubS s (S a) → K s) → AWP P x (seqQ K Q) st) (hr : ∀ a, F a → AWP P y Q (S a)) : AWP P (.seq x y) Q st :=
 awp_seq (h _ fun _ a hF hs => AWP.sub hs (hr a hF))
end

def mpO (g : Nat) (l : List (AV × AV)) : AO := ⟨l.length, g, 0, 0, fun i j => match j with | 0 => (l.getD i (.nilS, .nilS)).1 | _ => (l.getD i (.nilS, .nilS)).2⟩
theorem mpLe {H : Heap} {B : List Nat} {U : List (Nat × Nat)} {o : AO} {g : Nat} {l : List (AV × AV)} (e1 : o.E = l.length) (e2 : o.gen = g) (e3 : o.sz = 0) (e4 : o.n = 0) (h : ∀ i j, (i < l.length ∨ i < 2) → j < 2 → VLe H B U (o.f i j) ((mpO g l).f i j)) : ObLe H B U o (mpO g l) :=
 ⟨e1.symm, e2.symm, e3, rfl, e4, rfl, fun i j hi hj => h i j (by rw [e1] at hi; exact hi) hj⟩
theorem mpLe0 {H : Heap} {B : List Nat} {U : List (Nat × Nat)} {o : AO} {g : Nat} (e1 : o.E = 0) (e2 : o.gen = g) (e3 : o.sz = 0) (e4 : o.n = 0) (h : ∀ i j, i < 2 → j < 2 → o.f i j = .nilS) : ObLe H B U o (mpO g []) :=
 mpLe e1 e2 e3 e4 fun i j hi hj => by
  have hi2 : i < 2 := by
   rcases hi with h | h
   ·exact absurd h (Nat.not_lt_zero i)
   ·exact h
  rw [h i j hi2 hj]
  match j, hj with
  | 0, _ => exact .nils
  | 1, _ => exact .nils

theorem mpO_f0 {g : Nat} {l : List (AV × AV)} {i : Nat} : (mpO g l).f i 0 = (l.getD i (.nilS, .nilS)).1 := rfl
theorem mpO_f1 {g : Nat} {l : List (AV × AV)} {i : Nat} : (mpO g l).f i 1 = (l.getD i (.nilS, .nilS)).2 := rfl

theorem mpLeM {H : Heap} {B : List Nat} {U : List (Nat × Nat)} {g : Nat} {α : Type} {l : List α} {p q : α → AV × AV} (h : ∀ a ∈ l, VLe H B U (p a).1 (q a).1 ∧ VLe H B U (p a).2 (q a).2) : ObLe H B U (mpO g (l.map p)) (mpO g (l.map q)) := by
 refine mpLe (by simp [mpO]) rfl rfl rfl fun i j _ hj => ?_
 by_cases hl : i < l.length
 ·have e1 : (l.map p).getD i (.nilS, .nilS) = p l[i] := by rw [List.getD_eq_getElem?_getD, List.getElem?_map, List.getElem?_eq_getElem hl]; rfl
  have e2 : (l.map q).getD i (.nilS, .nilS) = q l[i] := by rw [List.getD_eq_getElem?_getD, List.getElem?_map, List.getElem?_eq_getElem hl]; rfl
  obtain ⟨h1, h2⟩ := h l[i] (List.getElem_mem hl)
  match j, hj with
  | 0, _ => rw [mpO_f0, mpO_f0, e1, e2]; exact h1
  | 1, _ => rw [mpO_f1, mpO_f1, e1, e2]; exact h2
 ·have e1 : (l.map p).getD i (.nilS, .nilS) = (.nilS, .nilS) := by rw [List.getD_eq_getElem?_getD, List.getElem?_eq_none (by simp; omega)]; rfl
  have e2 : (l.map q).getD i (.nilS, .nilS) = (.nilS, .nilS) := by rw [List.getD_eq_getElem?_getD, List.getElem?_eq_none (by simp; omega)]; rfl
  match j, hj with
  | 0, _ => rw [mpO_f0, mpO_f0, e1, e2]; exact .nils
  | 1, _ => rw [mpO_f1, mpO_f1, e1, e2]; exact .nils
theorem mpLeS {H : Heap} {B : List Nat} {U : List (Nat × Nat)} {g : Nat} {α : Type} {l : List α} {p q : α → AV × AV} {a : α} {o : AO} (e1 : o.E = l.length + 1) (e2 : o.gen = g) (e3 : o.sz = 0) (e4 : o.n = 0) {k v : AV} {f0 : Nat → Nat → AV} (hf : o.f = pushV f0 l.length k v) (hf0 : f0 = (mpO g (l.map p)).f)
  (h : ∀ a ∈ l, VLe H B U (p a).1 (q a).1 ∧ VLe H B U (p a).2 (q a).2) (h1 : VLe H B U k (q a).1) (h2 : VLe H B U v (q a).2) : ObLe H B U o (mpO g ((l ++ [a]).map q)) := by
 refine mpLe (by rw [e1]; simp) e2 e3 e4 fun i j _ hj => ?_
 rw [hf]
 by_cases hl : i < l.length
 ·have q1 : ((l ++ [a]).map q).getD i (.nilS, .nilS) = q l[i] := by rw [List.getD_eq_getElem?_getD, List.getElem?_map, List.getElem?_append_left hl, List.getElem?_eq_getElem hl]; rfl
  have q2 : (l.map p).getD i (.nilS, .nilS) = p l[i] := by rw [List.getD_eq_getElem?_getD, List.getElem?_map, List.getElem?_eq_getElem hl]; rfl
  have q3 : ∀ j, pushV f0 l.length k v i j = f0 i j := fun j => by unfold pushV; rw [beqN_ne (Nat.ne_of_lt hl)]; rfl
  obtain ⟨h3, h4⟩ := h l[i] (List.getElem_mem hl)
  rw [q3, hf0]
  match j, hj with
  | 0, _ => rw [mpO_f0, mpO_f0, q1, q2]; exact h3
  | 1, _ => rw [mpO_f1, mpO_f1, q1, q2]; exact h4
 ·by_cases he : i = l.length
  ·subst he
   have q1 : ((l ++ [a]).map q).getD l.length (.nilS, .nilS) = q a := by rw [List.getD_eq_getElem?_getD, List.getElem?_map, List.getElem?_append_right (Nat.le_refl _), Nat.sub_self]; rfl
   match j, hj with
   | 0, _ => rw [mpO_f0, q1]; unfold pushV; rw [Nat.beq_refl]; exact h1
   | 1, _ => rw [mpO_f1, q1]; unfold pushV; rw [Nat.beq_refl]; exact h2
  ·have q1 : ((l ++ [a]).map q).getD i (.nilS, .nilS) = (.nilS, .nilS) := by rw [List.getD_eq_getElem?_getD, List.getElem?_eq_none (by simp; omega)]; rfl
   have q2 : (l.map p).getD i (.nilS, .nilS) = (.nilS, .nilS) := by rw [List.getD_eq_getElem?_getD, List.getElem?_eq_none (by simp; omega)]; rfl
   have q3 : ∀ j, pushV f0 l.length k v i j = f0 i j := fun j => by unfold pushV; rw [beqN_ne he]; rfl
   rw [q3, hf0]
   match j, hj with
   | 0, _ => rw [mpO_f0, mpO_f0, q1, q2]; exact .nils
   | 1, _ => rw [mpO_f1, mpO_f1, q1, q2]; exact .nils


def KHK (C : Came) (φ : Names) (ks : List Nat) : Ctx := { KH C with nm := fun i g => if memN i ks = true then φ i g else none }
theorem khk_nm {φ : Names} {ks : List Nat} {i g b : Nat} (h : (if memN i ks = true then φ i g else none) = some b) : φ i g = some b := by
 split at h
 ·exact h
 ·cases h
theorem khk_in {φ : Names} {ks : List Nat} {i g b : Nat} (h : (if memN i ks = true then φ i g else none) = some b) : i ∈ ks := by
 split at h
 ·rename_i hi; exact memN_iff.mp hi
 ·cases h
def XDK (v : AV) (kp : List Nat) : Ext := { XD v with kp := kp }
def XRK (s : Nat → Option AV) (kp : List Nat) : Ext := { XR s with kp := kp }
def recKK (P : Program) (T : Tab) (cg : Code) (ng nc : Nat) (caps : Nat → AV) (d1 d2 : Nat) (kp : List Nat) (v : AV) (st : ASt) (k : (Nat → Option AV) → Heap → List Nat → Prop) : Prop :=
 ex P T cg (fun e s => match e with
  | .normal => s.x.inR = true ∧ k s.x.gs s.heap s.used
  | .ret => s.x.inR = true ∧ k s.x.gs s.heap s.used
  | _ => False) ⟨ng, updF (updF (argS (getRange nc caps) 0) d1 v) d2 v, st.heap, st.used, XRK st.slots kp⟩
def recFK (P : Program) (T : Tab) (rs : List ResultVar) (cg : Code) (ng nc d1 d2 : Nat) (g : FuncId) (kp : List Nat) (post : AV → List (Nat × AO) → Prop) (v : AV) (st : ASt) : Prop :=
 st.x.inR = true ∧ ∃ fs caps, st.x.gs 0 = some (.func (.func g) 0 fs nc caps) ∧ recKK P T cg ng nc caps d1 d2 kp v st fun s H U =>
  finK T rs ⟨st.nt, s, H, U, XK kp⟩ fun l => ∃ r Hout, post r Hout ∧ SubS ⟨1, updF (fun _ => none) 0 (pack l), H, U, XK kp⟩ (mkStK 1 [(0, r)] Hout kp)
def recQK (P : Program) (T : Tab) (rs : List ResultVar) (cg : Code) (ng nc d1 d2 : Nat) (g : FuncId) (kp : List Nat) (post : AV → List (Nat × AO) → Prop) : APost := fun e st =>
 match e with
 | .normal => ∃ st', SubS st st' ∧ recFK P T rs cg ng nc d1 d2 g kp post (.pv .nilI) st'
 | .ret => ∃ st', SubS st st' ∧ recFK P T rs cg ng nc d1 d2 g kp post (.pv .nilI) st'
 | .panic v => v.flatV = true ∧ ∃ st', SubS st st' ∧ recFK P T rs cg ng nc d1 d2 g kp post v st'
 | _ => False

section
variable {P : Program} {K : Ctx} {C : Came} {φ φ' : Names} {M M' : Blocks} {H : Heap} {w w' : World} {T : Tab} {st : ASt} {a : Act}

theorem HeapCallK.recover {f g : FuncId} {fn fg : Func} {c0 rest cg : Code} {i1 i2 : Nat} {mk : Oper} {d d1 d2 : Nat} {ts1 ts2 : Array TypeId} {ty1 ty2 ty3 : TypeId} {p1 p2 p3 : String} {af1 af2 af3 : Array Edge} {args : List AV} {Hin : List (Nat × AO)} {post : AV → List (Nat × AO) → Prop}
  (hT : T.ok P = true) (hmix : P.follows .mixedOrders = true) (hen : enters P f = true) (hf : P.funcs[f]? = some fn)
  (hb : fn.body = some (.seq c0 (.seq (.region i1 #[mk, ⟨none, .defer { callee := .value (.tmp d), args := #[], argTypes := ts1 }, ty1, p1, af1, none⟩] false) rest))) {n : Nat} (hn : fn.ntmps = n) {rs : List ResultVar} (hrs : fn.results.toList = rs) (hp0 : plain c0 = true) (hmk : mk.guard = none)
  (heng : enters P g = true) (hfg : P.funcs[g]? = some fg) (hbg : fg.body = some (.seq (.region i2 #[⟨some d1, .call { callee := .builtin .recover, args := #[], argTypes := ts2 }, ty2, p2, af2, none⟩, ⟨some d2, .assign (.tmp d1), ty3, p3, af3, none⟩] false) cg))
  {ng nc : Nat} (hng : fg.ntmps = ng) (hrg : fg.results = #[]) (hd1 : nc ≤ d1) (hd2 : nc ≤ d2) (hdn1 : d1 < ng) (hdn2 : d2 < ng) (hd12 : d1 ≠ d2)
  (h : ex P T c0 (fun e s => match e with
    | .normal => stepK P T (fun _ _ => False) mk s fun s1 => s1.x = XK (keysL Hin) ∧ ∃ fs caps, s1.slots d = some (.func (.func g) 0 fs nc caps) ∧ AWP P rest (recQK P T rs cg ng nc d1 d2 g (keysL Hin) post) { s1 with x := XDK (.func (.func g) 0 fs nc caps) (keysL Hin) }
    | _ => False) (stHK n args Hin)) : HeapCallK P f args Hin post fun _ _ => False := by
 refine ⟨hen, fun φ M N w xs hm he ha => calls_body hf hb ?_⟩
 obtain ⟨C, hC⟩ : ∃ C : Came, C = ⟨w, ownOf φ (lookL Hin), M, N⟩ := ⟨_, rfl⟩
 have henv : EnvOK P C := by rw [hC]; exact he.ok (fun b hb => hm.notown hb)
 rw [← hC] at hm ⊢
 have hK : (KHK C φ (keysL Hin)).ok P := ⟨fun _ _ C' h => by obtain rfl : C' = _ := h; exact henv, fun l h => by cases h⟩
 have hgood : Good (KHK C φ (keysL Hin)) φ M (stHK n args Hin) { tmps := xs ++ Array.replicate (n - xs.size) undef, defers := [] } w :=
  { slots := fun t v ht => by
     obtain ⟨h1, h2, h3⟩ := argS_get _ _ _ _ ht
     have hlt : t < args.length := by omega
     refine ⟨xs.getD t undef, ?_, by rw [← h3]; exact ha.2 t hlt⟩
     have : t < xs.size := by rw [ha.1]; exact hlt
     simp [Array.getElem?_append, this, Array.getD_eq_getD_getElem?]
    gslots := fun t v ht => (by cases ht), nms := fun i g b h => ⟨khk_nm h, khk_in h⟩, mem := ⟨_, rfl, hm, [], rfl, List.nodup_nil, fun d hd => (by cases hd)⟩, wide := (by simp [stHK]; omega), yl := rfl, valid := rfl, inr := fun h => (by cases h), rdd := fun _ => rfl }
 rw [hn]
 refine wpIn_seq (wpIn_mono (ex_soundM hT c0 _ _ hp0 h _ _ _ _ _ hK hgood) ?_)
 rintro e a1 w1 ⟨s1, φ1, M1, hg1, ⟨_, hdf1⟩, hq1⟩
 cases e with
 | exit i => exact hq1.elim
 | ret => exact hq1.elim
 | panic ch => obtain ⟨_, _, _, _, hf⟩ := hq1; exact hf.elim
 | goto l => exact hq1.elim
 | outgrown => exact hq1.elim
 | normal =>
 have hdf1 : a1.defers = [] := hdf1
 refine wpIn_seq (wpIn_region ?_)
 show wpOpsIn (fen none) 0 P #[mk, _] _ [0, 1] a1 w1
 rw [wpOpsIn]
 simp only [List.getElem?_toArray, List.getElem?_cons_zero]
 rw [if_pos (by simp [Region.wanted, hmk])]
 refine stepK_sound hT hK (fun _ _ _ _ _ _ _ _ _ _ _ h => h.elim) hg1 hq1 ?_
 rintro s2 φ2 M2 a2 w2 hda hmo hg2 ⟨hx2, fs, caps, hs2, hrest⟩
 have hda : a2.defers = [] := hda.trans hdf1
 rw [wpOpsIn]
 simp only [List.getElem?_toArray, List.getElem?_cons_succ, List.getElem?_cons_zero]
 rw [if_pos (by simp [Region.wanted])]
 obtain ⟨Y, hY, hrY⟩ := hg2.slots d _ hs2
 obtain ⟨ys, hYe, hysz, hysr⟩ : ∃ ys, Y = .func (.func g) #[] ys ∧ ys.size = nc ∧ ∀ i, i < nc → Ra φ2 w2 M2 (caps i) (ys.getD i undef) := by
  cases hrY with
  | func _ _ _ _ _ us ys hu hy _ hc =>
    have : us = #[] := by simpa using hu
    subst this
    exact ⟨ys, rfl, hy, hc⟩
 have hev : a2.eval (.tmp d) = Y := by simp [Act.eval, hY, Array.getD_eq_getD_getElem?]
 obtain ⟨dd, hdd⟩ : ∃ dd : Deferred, dd = { target := .fn (.func g) ys, args := #[] } := ⟨_, rfl⟩
 refine ⟨fun _ _ => trivial, ?_⟩
 have hexec : ∀ ty p af, (Oper.semAt (fen none).round a2.eval ⟨none, .defer { callee := .value (.tmp d), args := #[], argTypes := ts1 }, ty, p, af, none⟩).run P w2 = .ok (.defer dd) w2 := fun ty p af => by
  show (execOp a2.eval ⟨none, .defer { callee := .value (.tmp d), args := #[], argTypes := ts1 }, ty, p, af, none⟩).run P w2 = _
  simp [execOp, resolve, hev, hYe, Deferred.ofValue, hdd]
 rw [hexec, Oper.uponIn_defer]
 show rest.wpIn (fen none) 0 P _ { a2 with defers := dd :: a2.defers } w2
 obtain ⟨K1, hK1⟩ : ∃ K1 : Ctx, K1 = { KHK C φ (keysL Hin) with ds := [dd], ghost := fun t => if t = 0 then some Y else none } := ⟨_, rfl⟩
 have hK1ok : K1.ok P := by subst hK1; exact ⟨fun _ _ C' h => by obtain rfl : C' = _ := h; exact henv, fun l h => by cases h⟩
 have hg3 : Good K1 φ2 M2 { s2 with x := XDK (.func (.func g) 0 fs nc caps) (keysL Hin) } { a2 with defers := dd :: a2.defers } w2 := by
  obtain ⟨C2, hC2, hm2, _⟩ := hg2.mem
  have hC2 : C2 = C := hC2
  subst hC2; subst hK1
  refine { slots := hg2.slots, nms := fun i g b h => ⟨(hg2.nms i g b h).1, khk_in h⟩, gslots := fun t v ht => ?_, mem := ⟨_, rfl, hm2, [], by rw [hda]; rfl, List.nodup_nil, fun d hd => (by cases hd)⟩, wide := hg2.wide, yl := rfl, valid := rfl, inr := fun h => (by cases h), rdd := fun _ => by rw [hda] }
  have ht0 : t = 0 := by
   replace ht : (bif Nat.beq t 0 then some (AV.func (.func g) 0 fs nc caps) else none) = some v := ht
   cases hb : Nat.beq t 0 with
   | true => exact Nat.eq_of_beq_eq_true hb
   | false => rw [hb] at ht; cases ht
  subst ht0
  obtain rfl : AV.func (.func g) 0 fs nc caps = v := Option.some.inj ht
  exact ⟨Y, rfl, hrY⟩
 refine wpIn_mono (F := fen none) (by have := hrest K1 φ2 M2 _ w2 hK1ok hg3; rw [hK1] at this; exact this) ?_
 rintro e a3 w3 ⟨s30, φ30, M30, hg40, hq4⟩
 rw [← hK1] at hg40
 -- the closure, whatever recover gives
 have fin : ∀ (u : FrameMode) (v : AV) (x : Value) (s3 : ASt), u ≠ .run → v.flatV = true → Ra φ30 w3 M30 v x → SubS s30 s3 →
   (∀ (c₀ : Frame) (cs : List Frame), c₀.mode = u → ∃ u', settle u' = .returning ∧ ((recoverD (c₀ :: cs) = some (x, { c₀ with mode := u' } :: cs)) ∨ (recoverD (c₀ :: cs) = none ∧ x = .nilIface ∧ u' = u))) →
   recFK P T rs cg ng nc d1 d2 g (keysL Hin) post v s3 → LeavesInM (fen none) 0 P fn a3.tmps (fun e w' =>
    ∃ x r Hout φ' M', ((e = .returned x ∧ post r Hout) ∨ (e = .panicked [{ v := x, recovered := false }] ∧ False)) ∧ Mem C φ' M' (lookL Hout) (keysL Hout) w' ∧ Ra φ' w' M' r x ∧ ∀ i g b, memN i (keysL Hin) = true → φ i g = some b → φ' i g = some b) a3.defers u w3 := by
  rintro u v x s3 hu hfl hrv0 hsub hrec ⟨hin, fs', caps', hgs, hk⟩
  obtain ⟨φ3, M3, hg4⟩ := hsub _ _ _ _ _ hg40
  have hrv : Ra φ3 w3 M3 v x := AV.flatV_any hrv0 hfl _ _ _
  have hdef : a3.defers = [dd] := by have := hg4.rdd hin; rw [hK1] at this; exact this
  obtain ⟨Y', hY', hrY'⟩ := hg4.gslots 0 _ hgs
  have hYY : Y' = Y := by rw [hK1] at hY'; exact (Option.some.inj hY').symm
  subst hYY
  rw [hYe] at hrY'
  have hcap : ∀ i, i < nc → Ra φ3 w3 M3 (caps' i) (ys.getD i undef) := by
   cases hrY' with | func _ _ _ _ _ _ _ _ _ _ hc => exact hc
  rw [hdef]
  refine ⟨hu, .inr ⟨fun h => absurd h (by simp [fen, Fence.wide]), .func g, ys, g, ys, by rw [hdd], ?_, fun _ _ => trivial, ?_⟩⟩
  ·have := run_callFunc (P := P) w3 (args := ys) heng
   rw [hdd]
   simpa [invoke] using this
  ·refine callsDIn_of_wpSIn (F := fen none) (n := 0 - 1) hfg hbg trivial fun c₀ cs hc0 => ?_
   obtain ⟨u', hset, hrd⟩ := hrec c₀ cs hc0
   rw [hng]
   obtain ⟨a0, ha0⟩ : ∃ a0 : Act, a0 = { tmps := ys ++ Array.replicate (ng - ys.size) undef, defers := [] } := ⟨_, rfl⟩
   rw [← ha0]
   have hsz0 : a0.tmps.size = ng := by rw [ha0]; simp; omega
   -- behind the first region
   have hcg : cg.wpSIn (fen none) (0 - 1) P (bodyPostS P fg c₀ cs fun
     | .returned _, u', w' => LeavesInM (fen none) 0 P fn a3.tmps (fun e w' => ∃ x r Hout φ' M', ((e = .returned x ∧ post r Hout) ∨ (e = .panicked [{ v := x, recovered := false }] ∧ False)) ∧ Mem C φ' M' (lookL Hout) (keysL Hout) w' ∧ Ra φ' w' M' r x ∧ ∀ i g b, memN i (keysL Hin) = true → φ i g = some b → φ' i g = some b) [] (settle u') w'
     | .panicked chain, u', w' => LeavesInM (fen none) 0 P fn a3.tmps (fun e w' => ∃ x r Hout φ' M', ((e = .returned x ∧ post r Hout) ∨ (e = .panicked [{ v := x, recovered := false }] ∧ False)) ∧ Mem C φ' M' (lookL Hout) (keysL Hout) w' ∧ Ra φ' w' M' r x ∧ ∀ i g b, memN i (keysL Hin) = true → φ i g = some b → φ' i g = some b) [] (raised u' chain) w'
     | .outgrown, _, w' => ∃ x r Hout φ' M', ((Ending.outgrown = .returned x ∧ post r Hout) ∨ (Ending.outgrown = .panicked [{ v := x, recovered := false }] ∧ False)) ∧ Mem C φ' M' (lookL Hout) (keysL Hout) w' ∧ Ra φ' w' M' r x ∧ ∀ i g b, memN i (keysL Hin) = true → φ i g = some b → φ' i g = some b) ((a0.put (some d1) x).put (some d2) x) ({ c₀ with mode := u' } :: cs) w3 := by
    refine wpSIn_of_wpIn rfl ?_
    obtain ⟨K2, hK2⟩ : ∃ K2 : Ctx, K2 = { KHK C φ (keysL Hin) with ghost := fun t => a3.tmps[t]? } := ⟨_, rfl⟩
    have hK2ok : K2.ok P := by subst hK2; exact ⟨fun _ _ C' h => by obtain rfl : C' = _ := h; exact henv, fun l h => by cases h⟩
    have hg5 : Good K2 φ3 M3 ⟨ng, updF (updF (argS (getRange nc caps') 0) d1 v) d2 v, s3.heap, s3.used, XRK s3.slots (keysL Hin)⟩ ((a0.put (some d1) x).put (some d2) x) w3 := by
     obtain ⟨C3, hC3, hm3, _⟩ := hg4.mem
     have hC3 : C3 = C := by rw [hK1] at hC3; exact hC3
     subst hC3; subst hK2
     refine { slots := fun t z ht => ?_, nms := fun i g b h => ⟨(hg4.nms i g b (by rw [hK1]; exact h)).1, khk_in h⟩, gslots := hg4.slots, mem := ⟨_, rfl, hm3, [], by rw [ha0]; rfl, List.nodup_nil, fun d hd => (by cases hd)⟩, wide := by simp [Act.put, hsz0], yl := rfl, valid := rfl, inr := fun h => (by cases h), rdd := fun _ => by rw [ha0]; rfl }
     replace ht : updF (updF (argS (getRange nc caps') 0) d1 v) d2 v t = some z := ht
     simp only [Act.put]
     by_cases e2 : t = d2
     ·subst e2; rw [updF_same] at ht; obtain rfl := Option.some.inj ht
      exact ⟨x, by rw [Array.getElem?_setIfInBounds]; simp [hsz0, hdn2], hrv⟩
     ·rw [updF_ne _ _ e2] at ht
      by_cases e1 : t = d1
      ·subst e1; rw [updF_same] at ht; obtain rfl := Option.some.inj ht
       exact ⟨x, by rw [Array.getElem?_setIfInBounds, if_neg (fun e => e2 e.symm), Array.getElem?_setIfInBounds]; simp [hsz0, hdn1], hrv⟩
      ·rw [updF_ne _ _ e1] at ht
       obtain ⟨h1, h2, h3⟩ := argS_get _ _ _ _ ht
       have hlt : t < nc := by simpa [getRange] using h2
       refine ⟨ys.getD t undef, ?_, ?_⟩
       ·rw [Array.getElem?_setIfInBounds, if_neg (fun e => e2 e.symm), Array.getElem?_setIfInBounds, if_neg (fun e => e1 e.symm), ha0]
        have : t < ys.size := by omega
        simp [Array.getElem?_append, this, Array.getD_eq_getD_getElem?]
       ·rw [← h3]
        have := hcap t hlt
        rw [show getL (getRange nc caps') (t - 0) = caps' t from getL_range _ hlt]
        exact this
    have hrun := ex_sound hT hmix _ _ _ hk K2 φ3 M3 _ w3 hK2ok hg5
    rw [show K2.rd = none by rw [hK2]; rfl] at hrun
    refine wpIn_mono (F := fen none) hrun ?_
    rintro e a5 w5 ⟨s5, φ5, M5, hg6, hq6⟩
    have fin2 : s5.x.inR = true ∧ (finK T rs ⟨s3.nt, s5.x.gs, s5.heap, s5.used, XK (keysL Hin)⟩ fun l => ∃ r Hout, post r Hout ∧ SubS ⟨1, updF (fun _ => none) 0 (pack l), s5.heap, s5.used, XK (keysL Hin)⟩ (mkStK 1 [(0, r)] Hout (keysL Hin))) →
      a5.defers = [] ∧ ∃ u'', ({ c₀ with mode := u' } :: cs) = ({ c₀ with mode := u'' } :: cs) ∧ ∃ v, (results fg a5.tmps).run P w5 = .ok v w5 ∧ LeavesInM (fen none) 0 P fn a3.tmps (fun e w' => ∃ x r Hout φ' M', ((e = .returned x ∧ post r Hout) ∨ (e = .panicked [{ v := x, recovered := false }] ∧ False)) ∧ Mem C φ' M' (lookL Hout) (keysL Hout) w' ∧ Ra φ' w' M' r x ∧ ∀ i g b, memN i (keysL Hin) = true → φ i g = some b → φ' i g = some b) [] (settle u'') w5 := by
     rintro ⟨hin5, hfk⟩
     refine ⟨by have := hg6.rdd hin5; rw [hK2] at this; exact this, u', rfl, .tuple #[], by simp [results, hrg], ?_⟩
     rw [hset]
     obtain ⟨C5, hC5, hm5, _⟩ := hg6.mem
     have hC5 : C5 = C := by rw [hK2] at hC5; exact hC5
     subst hC5
     have hg7 : Good (KHK C5 φ (keysL Hin)) φ5 M5 ⟨s3.nt, s5.x.gs, s5.heap, s5.used, XK (keysL Hin)⟩ { tmps := a3.tmps, defers := [] } w5 :=
      { slots := fun t z ht => by have := hg6.gslots t z ht; rw [hK2] at this; exact this
        gslots := fun t v ht => (by cases ht), nms := fun i g b h => ⟨(hg6.nms i g b (by rw [hK2]; exact h)).1, khk_in h⟩, mem := ⟨_, rfl, hm5, [], rfl, List.nodup_nil, fun d hd => (by cases hd)⟩, wide := hg4.wide, yl := rfl, valid := rfl, inr := fun h => (by cases h), rdd := fun _ => rfl }
     obtain ⟨l, zs, ⟨r, Hout, hpost, hsub⟩, h1, h2, h3, h4⟩ := finK_sound hT hg7 _ _ hfk
     obtain ⟨y, hy, hr⟩ := results_of (a := { tmps := a3.tmps, defers := [] }) hrs h1 h2 h3 h4
     have hg8 : Good (KHK C5 φ (keysL Hin)) φ5 M5 ⟨1, updF (fun _ => none) 0 (pack l), s5.heap, s5.used, XK (keysL Hin)⟩ { tmps := #[y], defers := [] } w5 :=
      { slots := fun t v ht => by
         by_cases he : t = 0
         ·subst he
          replace ht : updF (fun _ => none) 0 (pack l) 0 = some v := ht
          rw [updF_same] at ht
          obtain rfl := Option.some.inj ht
          exact ⟨y, rfl, hr⟩
         ·replace ht : updF (fun _ => none) 0 (pack l) t = some v := ht
          rw [updF_ne _ _ he] at ht; cases ht
        gslots := fun t v ht => (by cases ht), nms := fun i g b h => ⟨(hg7.nms i g b h).1, khk_in h⟩, mem := ⟨_, rfl, hm5, [], rfl, List.nodup_nil, fun d hd => (by cases hd)⟩, wide := Nat.le_refl _, yl := rfl, valid := rfl, inr := fun h => (by cases h), rdd := fun _ => rfl }
     obtain ⟨φ9, M9, hg9⟩ := hsub _ _ _ _ _ hg8
     obtain ⟨y', hy', hry⟩ := hg9.slots 0 r rfl
     have : y' = y := by simpa using hy'.symm
     subst this
     obtain ⟨C9, hC9, hm9, _⟩ := hg9.mem
     have hC9 : C9 = C5 := hC9
     subst hC9
     exact ⟨y', hy, y', r, Hout, φ9, M9, .inl ⟨rfl, hpost⟩, hm9, hry, fun i g b hi hb => (hg9.nms i g b (by show (if memN i (keysL Hin) = true then φ i g else none) = some b; rw [if_pos hi]; exact hb)).1⟩
    cases e with
    | normal => exact fin2 hq6
    | ret => exact fin2 hq6
    | exit i => exact hq6.elim
    | panic ch => obtain ⟨_, _, _, _, hf⟩ := hq6; exact hf.elim
    | goto l => exact hq6.elim
    | outgrown => exact hq6.elim
   refine wpSIn_seq (wpSIn_region ?_)
   show wpOpsSIn (fen none) (0 - 1) P _ _ [0, 1] a0 (c₀ :: cs) w3
   have hassign : ∀ (z : Value), a0.tmps.size = ng → ((a0.put (some d1) z).eval (.tmp d1)) = z := fun z hz => by
    simp [Act.put, Act.eval, Array.getD_eq_getD_getElem?, hz, hdn1]
   simp only [wpOpsSIn, List.getElem?_toArray, List.getElem?_cons_zero, List.getElem?_cons_succ]
   refine ⟨fun _ _ => trivial, ?_⟩
   rw [if_pos (by simp [Region.wanted])]
   have hro : ∀ ty p af, (execOp a0.eval ⟨some d1, .call { callee := .builtin .recover, args := #[], argTypes := ts2 }, ty, p, af, none⟩).run P w3 = .ok .recover w3 := fun ty p af => by
    simp [execOp, resolve, invoke, builtin]
   rw [hro]
   have go : ∀ (cs' : List Frame) (z : Value), z = x → cs' = { c₀ with mode := u' } :: cs → (execOp (a0.put (some d1) z).eval (⟨some d2, .assign (.tmp d1), ty3, p3, af3, none⟩ : Oper)).run P w3 = .ok (.value x) w3 := by
    intro cs' z hz hcs
    subst hz
    simp [execOp, hassign _ hsz0]
   rcases hrd with hrd | ⟨hrd, rfl, rfl⟩
   ·rw [hrd]
    refine ⟨fun _ _ => trivial, ?_⟩
    rw [if_pos (by simp [Region.wanted]), go _ x rfl rfl]
    exact hcg
   ·rw [hrd]
    refine ⟨fun _ _ => trivial, ?_⟩
    have hcc : ({ c₀ with mode := u' } : Frame) = c₀ := by subst hc0; rfl
    rw [if_pos (by simp [Region.wanted]), go (c₀ :: cs) .nilIface rfl (by rw [hcc])]
    rw [hcc] at hcg
    exact hcg
 cases e with
 | exit i => exact hq4.elim
 | goto l => exact hq4.elim
 | outgrown => exact hq4.elim
 | normal => obtain ⟨s3, hsub, hq4⟩ := hq4; exact fin .returning (.pv .nilI) .nilIface s3 (by simp) rfl (.pv _ _ .nilI) hsub (fun c₀ cs hc => ⟨.returning, rfl, .inr ⟨by simp [recoverD, hc], rfl, rfl⟩⟩) hq4
 | ret => obtain ⟨s3, hsub, hq4⟩ := hq4; exact fin .returning (.pv .nilI) .nilIface s3 (by simp) rfl (.pv _ _ .nilI) hsub (fun c₀ cs hc => ⟨.returning, rfl, .inr ⟨by simp [recoverD, hc], rfl, rfl⟩⟩) hq4
 | panic ch =>
   obtain ⟨v, x, rfl, hrv, hfl, s3, hsub, hq4⟩ := hq4
   exact fin (.panicking [{ v := x, recovered := false }]) v x s3 (by simp) hfl hrv hsub (fun c₀ cs hc => ⟨.panicking [{ v := x, recovered := true }], by simp [settle], .inl (by simp [recoverD, hc])⟩) hq4
end

def astep (P : Program) (T : Tab) (ops : List Oper) (Q : APost) (o : Oper) (st : ASt) (k : ASt → Prop) : Prop :=
 match o.guard with
 | none => stepK P T Q o st k
 | some (j, want) =>
   match (ops[j]?).bind (·.dst) with
   | none => False
   | some dj =>
     match st with
     | ⟨nt, s, H, U, X⟩ =>
     match s dj with
     | some (.pv (.bool b)) =>
       (b = want → stepK P T Q o ⟨nt, updF s dj (.pv (.bool want)), H, U, X⟩ k) ∧
       (b = (!want) → k ⟨nt, passF nt (updF s dj (.pv (.bool (!want)))) o.dst, H, U, X⟩)
     | some (.tup 0 _) => k ⟨nt, passF nt s o.dst, H, U, X⟩
     | _ => False
def rdStep (T : Tab) (o : Oper) (st : ASt) (k : ASt → Prop) : Prop :=
 match st with
 | ⟨nt, s, H, U, X⟩ =>
 match o.guard, o.dst with
 | none, some d =>
   match opSem T o.op d (evalO s) H with
   | some ⟨ob, v, .none⟩ => bif Nat.ble (d + 1) nt then oblK ob (k ⟨nt, updF s d v, H, U, X⟩) else False
   | _ => False
 | _, _ => False
def plainOp : Op → Bool
 | .store _ _ _ | .panic _ => false
 | .call { callee := .value _, .. } => false
 | _ => true
def stepT (P : Program) (T : Tab) (ops : List Oper) (Q : APost) (pu rd : List Nat) (i : Nat) (o : Oper) (st : ASt) (k : ASt → Prop) : Prop :=
 bif memN i pu then pureStep T o st k else bif memN i rd && plainOp o.op then rdStep T o st k else astep P T ops Q o st k
def aopsT (P : Program) (T : Tab) (ops : List Oper) (Q : APost) (pu rd : List Nat) : List Nat → ASt → Prop
 | [], st => Q .normal st
 | i :: rest, st =>
   match ops[i]? with
   | none => False
   | some o => stepT P T ops Q pu rd i o st (aopsT P T ops Q pu rd rest)

def guardsOf (ops : List Oper) (o : Oper) : List Nat := (guardSlot ops o).toList
def floatsG (ops : List Oper) (y x : Oper) : Bool := floats y x && (match y.dst with | some d => !memN d (guardsOf ops x) | none => false)
def comT (ops : List Oper) (pu rd : List Nat) (x z : Nat) : Bool :=
 match ops[x]?, ops[z]? with
 | some ox, some oz => floatsG ops ox oz && (memN x pu || (memN x rd && plainOp ox.op && (memN z pu || (memN z rd && plainOp oz.op))))
 | _, _ => false

inductive Tr where
 | done
 | alt (x : Nat) (t : Tr)
 | br (x : Nat) (t r : Tr)
 | dead
 | skip (t : Tr)
 | cut (x : Nat) (t r : Tr)
def allDead : Tr → Bool
 | .done => false
 | .dead => true
 | .alt _ t => allDead t
 | .br _ t r => allDead t && allDead r
 | .skip t => allDead t
 | .cut _ t r => allDead t && allDead r
def readyB (ops : List Oper) (acc : List Nat) (x : Nat) : Bool :=
 !memN x acc && (match ops[x]? with
  | some o => o.after.toList.all fun e => !Region.binds .any e || memN e.on acc
  | none => false)
def okTr (ops : List Oper) (pu rd : List Nat) : Tr → List Nat → List Nat → List Nat → Bool
 | .done, acc, _, _ => (List.range ops.length).all fun i => !readyB ops acc i
 | .alt x t, acc, sl, seen => readyB ops acc x && okTr ops pu rd t (x :: acc) ((sl ++ seen).filter fun s => comT ops pu rd s x) [] &&
    ((memN x pu && (List.range ops.length).all fun z => memN z acc || Nat.beq z x || (match ops[z]? with | some oz => bindsB oz x | none => false) || comT ops pu rd x z) ||
      (List.range ops.length).all fun i => !readyB ops acc i || memN i sl || memN i seen || Nat.beq i x)
 | .br x t r, acc, sl, seen => readyB ops acc x && okTr ops pu rd t (x :: acc) ((sl ++ seen).filter fun s => comT ops pu rd s x) [] && okTr ops pu rd r acc sl (x :: seen)
 | .dead, acc, sl, seen => ((List.range ops.length).any fun i => readyB ops acc i) && (List.range ops.length).all fun i => !readyB ops acc i || memN i sl || memN i seen
 | .skip t, acc, sl, seen => allDead t && okTr ops pu rd t acc sl seen
 | .cut x t r, acc, sl, seen => readyB ops acc x && (allDead t && okTr ops pu rd t (x :: acc) ((sl ++ seen).filter fun s => comT ops pu rd s x) []) && okTr ops pu rd r acc sl (x :: seen)
structure And2 (a b : Prop) : Prop where
 l : a
 r : b
def trP (P : Program) (T : Tab) (ops : List Oper) (Q : APost) (pu rd : List Nat) : Tr → ASt → Prop
 | .done, st => Q .normal st
 | .alt x t, st => match ops[x]? with
   | none => False
   | some o => stepT P T ops Q pu rd x o st (trP P T ops Q pu rd t)
 | .br x t r, st => And2 (match ops[x]? with
   | none => False
   | some o => stepT P T ops Q pu rd x o st (trP P T ops Q pu rd t)) (trP P T ops Q pu rd r st)
 | .dead, _ => True
 | .skip _, _ => True
 | .cut _ _ r, st => trP P T ops Q pu rd r st
section
variable {P : Program} {T : Tab} {ops : List Oper} {st : ASt} {Q : APost} {pu rd : List Nat}

theorem opAny_local {op : Op} {ev ev' : Operand → Option AV} (h : ∀ y ∈ op.operands.toList, ev y = ev' y) : opAny T op ev = opAny T op ev' := by
 unfold opAny
 cases op <;> try rfl
 case binOp o t x y u => simp only [h x (by simp [Op.operands]), h y (by simp [Op.operands])]
theorem opNd_local {op : Op} {d : Nat} {H : Heap} {U : List Nat} {ev ev' : Operand → Option AV} (h : ∀ y ∈ op.operands.toList, ev y = ev' y) : opNd T op d ev H U = opNd T op d ev' H U := by
 unfold opNd
 cases op <;> try rfl
 case makeMap t r => cases r <;> rfl
 case range t x => simp only [h x (by simp [Op.operands])]
 case entry x => simp only [h x (by simp [Op.operands])]
 case lookup t x i ok => simp only [h x (by simp [Op.operands]), h i (by simp [Op.operands])]
 case typeAssert x a t ok => cases ok <;> simp only [h x (by simp [Op.operands])]
 case convert s t x => simp only [h x (by simp [Op.operands])]
 case next x b => cases b <;> simp only [h x (by simp [Op.operands])]
theorem opNd0_local {op : Op} {H : Heap} {ev ev' : Operand → Option AV} (h : ∀ y ∈ op.operands.toList, ev y = ev' y) : opNd0 T op ev H = opNd0 T op ev' H := by
 unfold opNd0
 cases op <;> try rfl
 case mapUpdate t m k v => simp only [h m (by simp [Op.operands]), h k (by simp [Op.operands]), h v (by simp [Op.operands])]
 case insert t m k v => simp only [h m (by simp [Op.operands]), h k (by simp [Op.operands]), h v (by simp [Op.operands])]

def setK (nt : Nat) (s : Nat → Option AV) (xd : Option Nat) (d : Nat) (v : AV) (k : ASt → Prop) (st : ASt) : Prop :=
 (st.nt = nt ∧ ∀ t, xd ≠ some t → st.slots t = s t) ∧ k ⟨st.nt, updF st.slots d v, st.heap, st.used, st.x⟩
theorem setK_mk {nt : Nat} {s : Nat → Option AV} {d e : Nat} {v r : AV} {H : Heap} {U : List Nat} {X : Ext} {k : ASt → Prop} (hne : d ≠ e) (h : k ⟨nt, updF (updF s d v) e r, H, U, X⟩) : setK nt s (some e) d v k ⟨nt, updF s e r, H, U, X⟩ :=
 ⟨⟨rfl, fun t ht => updF_ne _ _ fun hh => ht (by rw [hh])⟩, by
   show k ⟨nt, updF (updF s e r) d v, H, U, X⟩
   rw [← updF_comm _ _ _ hne]; exact h⟩
theorem setK_mk0 {nt : Nat} {s : Nat → Option AV} {d : Nat} {v : AV} {H : Heap} {U : List Nat} {X : Ext} {k : ASt → Prop} (h : k ⟨nt, updF s d v, H, U, X⟩) : setK nt s none d v k ⟨nt, s, H, U, X⟩ :=
 ⟨⟨rfl, fun _ _ => rfl⟩, h⟩

theorem stepK_slot {o : Oper} {nt d : Nat} {s : Nat → Option AV} {v : AV} {H : Heap} {U : List Nat} {X : Ext} {k : ASt → Prop} {G : Nat → Bool} (hQ : ∀ r nt s s' H U X, (∀ t, G t = true → s t = s' t) → Q (.panic r) ⟨nt, s, H, U, X⟩ → Q (.panic r) ⟨nt, s', H, U, X⟩) (hGd : G d = false)
  (hd : o.dst ≠ some d) (hx : ∀ u ∈ o.op.operands.toList, evalO (updF s d v) u = evalO s u) (h : stepK P T Q o ⟨nt, updF s d v, H, U, X⟩ k) : stepK P T Q o ⟨nt, s, H, U, X⟩ (setK nt s o.dst d v k) := by
 obtain ⟨xd, op, ty, pos, after, guard⟩ := o
 simp only at hd hx
 have hQ' : ∀ r H U, Q (.panic r) ⟨nt, updF s d v, H, U, X⟩ → Q (.panic r) ⟨nt, s, H, U, X⟩ := fun r H U h => hQ _ _ _ _ _ _ _ (fun t ht => updF_ne _ _ fun e => by rw [e, hGd] at ht; cases ht) h
 have hne : ∀ e, xd = some e → d ≠ e := fun e he hh => hd (by rw [he, hh])
 have eq1 : ∀ e, xd = some e → ∀ u H U X, k ⟨nt, updF (updF s d v) e u, H, U, X⟩ = setK nt s xd d v k ⟨nt, updF s e u, H, U, X⟩ := fun e he u H U X => by
  subst he
  exact propext ⟨setK_mk (hne e rfl), fun h => by
   have h2 := h.2
   dsimp only at h2
   rw [← updF_comm _ _ _ (hne e rfl)] at h2
   exact h2⟩
 have eq0 : xd = none → ∀ H U X, k ⟨nt, updF s d v, H, U, X⟩ = setK nt s xd d v k ⟨nt, s, H, U, X⟩ := fun he H U X => by
  subst he
  exact propext ⟨setK_mk0, fun h => h.2⟩
 have eqq : ∀ r H U, Q (.panic r) ⟨nt, updF s d v, H, U, X⟩ = Q (.panic r) ⟨nt, s, H, U, X⟩ := fun r H U => propext ⟨hQ _ _ _ _ _ _ _ (fun t ht => updF_ne _ _ fun e => by rw [e, hGd] at ht; cases ht), hQ _ _ _ _ _ _ _ (fun t ht => (updF_ne _ _ fun e => by rw [e, hGd] at ht; cases ht).symm)⟩
 have hs : ∀ e, opSem T op e (evalO (updF s d v)) H = opSem T op e (evalO s) H := fun e => opSem_local hx fun _ _ _ _ _ _ => rfl
 have ha := opAny_local (T := T) hx
 have hn : ∀ e, opNd T op e (evalO (updF s d v)) H U = opNd T op e (evalO s) H U := fun e => opNd_local hx
 have hn0 : opNd0 T op (evalO (updF s d v)) H = opNd0 T op (evalO s) H := opNd0_local hx
 unfold stepK at h ⊢
 cases op
 case store t a w =>
  simp only at h ⊢
  rw [hx a (by simp [Op.operands]), hx w (by simp [Op.operands])] at h
  cases xd with
  | some e => exact h
  | none =>
    cases ha : evalO s a with
    | none => rw [ha] at h; exact h
    | some y =>
      cases hw : evalO s w with
      | none => rw [ha, hw] at h; exact h
      | some z =>
        rw [ha, hw] at h
        simp only at h ⊢
        split
        ·rename_i ob u id ao he
         simp only [he] at h
         exact oblK_imp h setK_mk0
        ·rename_i hno
         exfalso
         revert h
         split
         ·rename_i ob u id ao he; exact (hno _ _ _ _ he).elim
         ·exact id
 case panic x =>
  simp only at h ⊢
  rw [hx x (by simp [Op.operands])] at h
  split
  ·rename_i t p he
   simp only [he] at h
   exact hQ' _ _ _ h
  ·rename_i hno
   exfalso
   revert h
   split
   ·rename_i t p he; exact (hno _ _ he).elim
   ·exact id
 case call c =>
  obtain ⟨callee, args, ts⟩ := c
  cases callee with
  | value f =>
    have ef : evalO (updF s d v) f = evalO s f := hx f (by simp [Op.operands, Call.operands])
    have el : evalList (evalO (updF s d v)) args.toList = evalList (evalO s) args.toList := evalList_congr fun u hu => hx u (by simp [Op.operands, Call.operands]; right; simpa using hu)
    simp only [ef, el] at h ⊢
    cases xd with
    | none => simp only [eq0 rfl, eqq] at h; exact h
    | some e => simp only [eq1 e rfl, eqq] at h; exact h
  | invoke _ _ =>
    cases xd with
    | none => simp only [hn0, eq0 rfl] at h ⊢; exact h
    | some e => simp only [hs, ha, hn, eq1 e rfl] at h ⊢; exact h
  | builtin b =>
    cases xd with
    | none => simp only [hn0, eq0 rfl] at h ⊢; exact h
    | some e => simp only [hs, ha, hn, eq1 e rfl] at h ⊢; exact h
 all_goals
  cases xd with
  | none => simp only [hn0, eq0 rfl] at h ⊢; exact h
  | some e => simp only [hs, ha, hn, eq1 e rfl] at h ⊢; exact h

theorem opLookup_imp {t : TypeId} {x key : AV} {ok : Bool} {H : Heap} {F : (AV → Prop) → Prop} (h : opLookup T t x key ok H = some F) {κ κ' : AV → Prop} (hk : ∀ v, κ v → κ' v) (hF : F κ) : F κ' := by
 unfold opLookup at h
 repeat' (split at h)
 all_goals first | (cases h) | skip
 ·exact hk _ hF
 ·rename_i o _
  cases hb : isObj _ o && Nat.beq _ _ && keyFits _ key with
  | false => rw [hb] at h; cases h
  | true => rw [hb] at h; obtain rfl := Option.some.inj h; exact ⟨fun i h1 h2 => hk _ (hF.1 i h1 h2), fun h1 => hk _ (hF.2 h1)⟩
theorem opNext_imp {x : AV} {H : Heap} {F : (AV → Heap → Prop) → Prop} (h : opNext x H = some F) {κ κ' : AV → Heap → Prop} (hk : ∀ v H, κ v H → κ' v H) (hF : F κ) : F κ' := by
 unfold opNext at h
 repeat' (split at h)
 all_goals first | (cases h) | skip
 generalize (Nat.beq _ 2 && isIter _ && isObj _ _) = b at h
 cases b with
 | false => cases h
 | true => obtain rfl := Option.some.inj h; exact ⟨hF.1, fun i h1 h2 => hk _ _ (hF.2.1 i h1 h2), fun h1 => hk _ _ (hF.2.2 h1)⟩
theorem opMapUpd_imp {t : TypeId} {x key v : AV} {H : Heap} {F : (Heap → Prop) → Prop} (h : opMapUpd T t x key v H = some F) {κ κ' : Heap → Prop} (hk : ∀ H, κ H → κ' H) (hF : F κ) : F κ' := by
 unfold opMapUpd at h
 repeat' (split at h)
 all_goals first | (cases h) | skip
 rename_i o _
 cases hb : isObj _ o && Nat.beq _ _ && keyFits _ key with
 | false => rw [hb] at h; cases h
 | true => rw [hb] at h; obtain rfl := Option.some.inj h; exact ⟨fun i h1 h2 => hk _ (hF.1 i h1 h2), fun h1 => hk _ (hF.2 h1)⟩
theorem opNd_imp {op : Op} {d : Nat} {ev : Operand → Option AV} {H : Heap} {U : List Nat} {F : (AV → Heap → List Nat → Prop) → Prop} (h : opNd T op d ev H U = some F) {κ κ' : AV → Heap → List Nat → Prop} (hk : ∀ v H U, κ v H U → κ' v H U) (hF : F κ) : F κ' := by
 unfold opNd at h
 split at h
 ·split at h
  ·rename_i id ao _
   cases hb : memN id U with
   | true => rw [hb] at h; cases h
   | false => rw [hb] at h; obtain rfl := Option.some.inj h; exact hk _ _ _ hF
  ·cases h
 ·obtain ⟨v, _, h⟩ := Option.bind_eq_some_iff.mp h
  split at h
  ·rename_i id ao _
   cases hb : memN id U with
   | true => rw [hb] at h; cases h
   | false => rw [hb] at h; obtain rfl := Option.some.inj h; exact hk _ _ _ hF
  ·cases h
 ·obtain ⟨v, _, h⟩ := Option.bind_eq_some_iff.mp h
  obtain ⟨r, _, rfl⟩ := Option.map_eq_some_iff.mp h
  exact oblK_imp hF (hk _ _ _)
 ·obtain ⟨v, _, h⟩ := Option.bind_eq_some_iff.mp h
  obtain ⟨u, _, h⟩ := Option.bind_eq_some_iff.mp h
  obtain ⟨F0, h0, rfl⟩ := Option.map_eq_some_iff.mp h
  exact opLookup_imp h0 (fun v => hk v H U) hF
 ·obtain ⟨v, _, h⟩ := Option.bind_eq_some_iff.mp h
  obtain ⟨r, _, rfl⟩ := Option.map_eq_some_iff.mp h
  exact hk _ _ _ hF
 ·obtain ⟨v, _, h⟩ := Option.bind_eq_some_iff.mp h
  obtain ⟨r, _, rfl⟩ := Option.map_eq_some_iff.mp h
  exact hk _ _ _ hF
 ·obtain ⟨v, _, h⟩ := Option.bind_eq_some_iff.mp h
  obtain ⟨F0, h0, rfl⟩ := Option.map_eq_some_iff.mp h
  exact opNext_imp h0 (fun v H => hk v H U) hF
 ·cases h
theorem opNd0_imp {op : Op} {ev : Operand → Option AV} {H : Heap} {F : (Heap → Prop) → Prop} (h : opNd0 T op ev H = some F) {κ κ' : Heap → Prop} (hk : ∀ H, κ H → κ' H) (hF : F κ) : F κ' := by
 unfold opNd0 at h
 split at h
 ·obtain ⟨a, _, h⟩ := Option.bind_eq_some_iff.mp h
  obtain ⟨b, _, h⟩ := Option.bind_eq_some_iff.mp h
  obtain ⟨c, _, h⟩ := Option.bind_eq_some_iff.mp h
  exact opMapUpd_imp h hk hF
 ·obtain ⟨a, _, h⟩ := Option.bind_eq_some_iff.mp h
  obtain ⟨b, _, h⟩ := Option.bind_eq_some_iff.mp h
  obtain ⟨c, _, h⟩ := Option.bind_eq_some_iff.mp h
  exact opMapUpd_imp h hk hF
 ·cases h

theorem bif_imp {b : Bool} {p q : Prop} (h : bif b then p else False) (hpq : p → q) : bif b then q else False := by
 cases b with
 | false => exact h
 | true => exact hpq h
theorem stepK_imp {o : Oper} {k k' : ASt → Prop} (h : stepK P T Q o st k) (hk : ∀ s, k s → k' s) : stepK P T Q o st k' := by
 obtain ⟨nt, s, H, U, X⟩ := st
 obtain ⟨xd, op, ty, pos, after, guard⟩ := o
 have gen1 : ∀ e, (match opSem T op e (evalO s) H with
    | some ⟨ob, u, eff⟩ => bif Nat.ble (e + 1) nt then
       match eff with
       | .none => oblK ob (k ⟨nt, updF s e u, H, U, X⟩)
       | .upd id ao => oblK ob (k ⟨nt, updF s e u, updF H id ao, U, X⟩)
       | .app id ao => oblK ob (k ⟨nt, updF s e u, updF H id ao, U, X⟩)
       | .new id ao => bif memN id U then False else oblK ob (k ⟨nt, updF s e u, updF H id ao, id :: U, X⟩)
      else False
    | none => match opAny T op (evalO s) with
      | some S => bif Nat.ble (e + 1) nt then ∀ u, S u → k ⟨nt, updF s e u, H, U, X⟩ else False
      | none => match opNd T op e (evalO s) H U with
        | some F => bif Nat.ble (e + 1) nt then F fun u H U => k ⟨nt, updF s e u, H, U, X⟩ else False
        | none => False) → (match opSem T op e (evalO s) H with
    | some ⟨ob, u, eff⟩ => bif Nat.ble (e + 1) nt then
       match eff with
       | .none => oblK ob (k' ⟨nt, updF s e u, H, U, X⟩)
       | .upd id ao => oblK ob (k' ⟨nt, updF s e u, updF H id ao, U, X⟩)
       | .app id ao => oblK ob (k' ⟨nt, updF s e u, updF H id ao, U, X⟩)
       | .new id ao => bif memN id U then False else oblK ob (k' ⟨nt, updF s e u, updF H id ao, id :: U, X⟩)
      else False
    | none => match opAny T op (evalO s) with
      | some S => bif Nat.ble (e + 1) nt then ∀ u, S u → k' ⟨nt, updF s e u, H, U, X⟩ else False
      | none => match opNd T op e (evalO s) H U with
        | some F => bif Nat.ble (e + 1) nt then F fun u H U => k' ⟨nt, updF s e u, H, U, X⟩ else False
        | none => False) := by
  intro e h
  cases hs : opSem T op e (evalO s) H with
  | some r =>
    obtain ⟨ob, u, eff⟩ := r
    simp only [hs] at h ⊢
    refine bif_imp h fun h => ?_
    cases eff with
    | none => exact oblK_imp h (hk _)
    | upd id ao => exact oblK_imp h (hk _)
    | app id ao => exact oblK_imp h (hk _)
    | new id ao =>
      simp only at h ⊢
      cases hm : memN id U with
      | true => rw [hm] at h; exact h
      | false => rw [hm] at h; exact oblK_imp h (hk _)
  | none =>
    simp only [hs] at h ⊢
    cases ha : opAny T op (evalO s) with
    | some S => simp only [ha] at h ⊢; exact bif_imp h fun h u hu => hk _ (h u hu)
    | none =>
      simp only [ha] at h ⊢
      cases hn : opNd T op e (evalO s) H U with
      | some F => simp only [hn] at h ⊢; exact bif_imp h fun h => opNd_imp hn (fun _ _ _ => hk _) h
      | none => simp only [hn] at h
 have gen0 : (match opNd0 T op (evalO s) H with
    | some F => F fun H => k ⟨nt, s, H, U, X⟩
    | none => False) → (match opNd0 T op (evalO s) H with
    | some F => F fun H => k' ⟨nt, s, H, U, X⟩
    | none => False) := by
  intro h
  cases hn : opNd0 T op (evalO s) H with
  | some F => simp only [hn] at h ⊢; exact opNd0_imp hn (fun _ => hk _) h
  | none => simp only [hn] at h
 unfold stepK at h ⊢
 cases op
 case store t a w =>
  simp only at h ⊢
  split
  ·rename_i hxd ha hw
   simp only [ha, hw] at h
   split
   ·rename_i ob u id ao he
    simp only [he] at h
    exact oblK_imp h (hk _)
   ·rename_i hno
    exfalso; revert h
    split
    ·rename_i ob u id ao he; exact (hno _ _ _ _ he).elim
    ·exact id
  ·rename_i hno
   exfalso; revert h
   split
   ·rename_i h1 h2; exact (hno _ _ rfl h1 h2).elim
   ·exact id
 case panic x => exact h
 case call c =>
  obtain ⟨callee, args, ts⟩ := c
  cases callee with
  | value f =>
    simp only at h ⊢
    split
    ·rename_i hf hl
     simp only [hf, hl] at h
     cases xd with
     | none => exact CallK.imp h (fun _ _ _ => hk _) fun _ _ _ h => h
     | some e => exact bif_imp h fun h => CallK.imp h (fun _ _ _ => hk _) fun _ _ _ h => h
    ·rename_i hf hl
     simp only [hf, hl] at h
     refine ⟨h.1, ?_⟩
     have h2 := h.2
     cases xd with
     | none => exact fun stop => hk _ (h2 stop)
     | some e => exact bif_imp h2 fun h stop => hk _ (h stop)
    ·rename_i hf hl
     simp only [hf, hl] at h
     cases xd with
     | none => exact CallK.imp h (fun _ _ _ => hk _) fun _ _ _ h => h
     | some e => exact bif_imp h fun h => CallK.imp h (fun _ _ _ => hk _) fun _ _ _ h => h
    ·rename_i h1 h2 h3
     exfalso; revert h
     split
     ·rename_i hf hl; exact (h1 _ _ _ _ _ hf hl).elim
     ·rename_i hf hl; exact (h2 _ _ _ _ hf hl).elim
     ·rename_i hf hl; exact (h3 _ _ _ _ _ _ hf hl).elim
     ·exact id
  | invoke _ _ =>
    cases xd with
    | none => exact gen0 h
    | some e => exact gen1 e h
  | builtin b =>
    cases xd with
    | none => exact gen0 h
    | some e => exact gen1 e h
 all_goals
  cases xd with
  | none => exact gen0 h
  | some e => exact gen1 e h

theorem updF_self {α : Type} {f : Nat → Option α} {k : Nat} {v : α} (h : f k = some v) : updF f k v = f := by
 funext t
 by_cases e : t = k
 ·subst e; rw [updF_same, h]
 ·rw [updF_ne _ _ e]
theorem astep_imp {o : Oper} {k k' : ASt → Prop} (h : astep P T ops Q o st k) (hk : ∀ s, k s → k' s) : astep P T ops Q o st k' := by
 obtain ⟨nt, s, H, U, X⟩ := st
 unfold astep at h ⊢
 split
 ·rename_i hg; simp only [hg] at h; exact stepK_imp h hk
 ·rename_i j want hg
  simp only [hg] at h
  cases hd : (ops[j]?).bind (·.dst) with
  | none => simp only [hd] at h
  | some dj =>
    simp only [hd] at h ⊢
    split
    ·rename_i b hb
     simp only [hb] at h
     exact ⟨fun e => stepK_imp (h.1 e) hk, fun e => hk _ (h.2 e)⟩
    ·rename_i f hb
     simp only [hb] at h
     exact hk _ h
    ·rename_i h1 h2
     exfalso; revert h
     split
     ·rename_i b hb; exact (h1 _ hb).elim
     ·rename_i f hb; exact (h2 _ hb).elim
     ·exact id
theorem astep_slot {o : Oper} {nt d : Nat} {s : Nat → Option AV} {v : AV} {H : Heap} {U : List Nat} {X : Ext} {k : ASt → Prop} {G : Nat → Bool} (hQ : ∀ r nt s s' H U X, (∀ t, G t = true → s t = s' t) → Q (.panic r) ⟨nt, s, H, U, X⟩ → Q (.panic r) ⟨nt, s', H, U, X⟩) (hGd : G d = false)
  (hd : o.dst ≠ some d) (hx : ∀ s, ∀ u ∈ o.op.operands.toList, evalO (updF s d v) u = evalO s u) (hgd : memN d (guardsOf ops o) = false) (h : astep P T ops Q o ⟨nt, updF s d v, H, U, X⟩ k) : astep P T ops Q o ⟨nt, s, H, U, X⟩ (setK nt s o.dst d v k) := by
 unfold astep at h ⊢
 have hpass : ∀ s : Nat → Option AV, passF nt (updF s d v) o.dst = updF (passF nt s o.dst) d v := fun s => by
  cases he : o.dst with
  | none => rfl
  | some e =>
    have hne : d ≠ e := fun hh => hd (by rw [he, hh])
    funext t
    by_cases h1 : t = e
    ·subst h1
     have e2 : updF (passF nt s (some t)) d v t = passF nt s (some t) t := updF_ne _ _ (fun hh => hne hh.symm)
     rw [e2]; simp [passF, Nat.beq_refl]
    ·by_cases h2 : t = d
     ·subst h2; rw [updF_same]; simp [passF, beqN_ne h1, updF_same]
     ·rw [updF_ne _ _ h2]; simp [passF, beqN_ne h1, updF_ne _ _ h2]
 have hpk : ∀ t, o.dst ≠ some t → passF nt s o.dst t = s t := fun t ht => by
  cases he : o.dst with
  | none => rfl
  | some e =>
    simp only [passF]
    rw [beqN_ne fun hh => ht (by rw [he, hh])]; rfl
 have done : k ⟨nt, passF nt (updF s d v) o.dst, H, U, X⟩ → setK nt s o.dst d v k ⟨nt, passF nt s o.dst, H, U, X⟩ := fun h => ⟨⟨rfl, hpk⟩, by rw [hpass] at h; exact h⟩
 cases hg : o.guard with
 | none => simp only [hg] at h ⊢; exact stepK_slot hQ hGd hd (hx s) h
 | some jw =>
   obtain ⟨j, want⟩ := jw
   simp only [hg] at h ⊢
   cases hdj : (ops[j]?).bind (·.dst) with
   | none => simp only [hdj] at h
   | some dj =>
     simp only [hdj] at h ⊢
     have hne : dj ≠ d := fun e => by
      subst e
      have : dj ∈ guardsOf ops o := by
       unfold guardsOf guardSlot
       rw [hg]; simp only; rw [hdj]; simp
      rw [memN_iff.mpr this] at hgd; cases hgd
     rw [updF_ne _ _ hne] at h
     split
     ·rename_i b hb
      simp only [hb] at h
      refine ⟨fun e => ?_, fun e => ?_⟩
      ·have h1 := h.1 e
       rw [updF_comm _ _ _ (fun hh => hne hh.symm)] at h1
       rw [updF_self (f := s) (by rw [hb, e])] at h1 ⊢
       exact stepK_slot hQ hGd hd (hx s) h1
      ·have h1 := h.2 e
       rw [updF_comm _ _ _ (fun hh => hne hh.symm)] at h1
       rw [updF_self (f := s) (by rw [hb, e])] at h1 ⊢
       exact done h1
     ·rename_i f hb
      simp only [hb] at h
      exact done h
     ·rename_i h1 h2
      exfalso; revert h
      split
      ·rename_i b hb; exact (h1 _ hb).elim
      ·rename_i f hb; exact (h2 _ hb).elim
      ·exact id

theorem rdStep_imp {o : Oper} {k k' : ASt → Prop} (h : rdStep T o st k) (hk : ∀ s, k s → k' s) : rdStep T o st k' := by
 obtain ⟨nt, s, H, U, X⟩ := st
 unfold rdStep at h ⊢
 simp only at h ⊢
 split
 ·rename_i d hg hd
  simp only [hg, hd] at h
  split
  ·rename_i ob v hs
   simp only [hs] at h
   exact bif_imp h fun h => oblK_imp h (hk _)
  ·rename_i hno
   exfalso; revert h
   split
   ·rename_i ob v hs; exact (hno _ _ hs).elim
   ·exact id
 ·rename_i hno
  exfalso; revert h
  split
  ·rename_i d hg hd; exact (hno _ hg hd).elim
  ·exact id
theorem rdStep_astep {o : Oper} {k : ASt → Prop} (hp : plainOp o.op = true) (h : rdStep T o st k) : astep P T ops Q o st k := by
 obtain ⟨nt, s, H, U, X⟩ := st
 obtain ⟨xd, op, ty, pos, after, guard⟩ := o
 unfold rdStep at h
 simp only at h hp
 cases guard with
 | some _ => simp only at h
 | none =>
 cases xd with
 | none => simp only at h
 | some d =>
   simp only at h
   unfold astep stepK
   simp only
   split at h
   ·rename_i ob v hs
    have goal : (match opSem T op d (evalO s) H with
     | some ⟨ob, v, eff⟩ => bif Nat.ble (d + 1) nt then
        match eff with
        | .none => oblK ob (k ⟨nt, updF s d v, H, U, X⟩)
        | .upd id ao => oblK ob (k ⟨nt, updF s d v, updF H id ao, U, X⟩)
        | .app id ao => oblK ob (k ⟨nt, updF s d v, updF H id ao, U, X⟩)
        | .new id ao => bif memN id U then False else oblK ob (k ⟨nt, updF s d v, updF H id ao, id :: U, X⟩)
       else False
     | none => match opAny T op (evalO s) with
       | some S => bif Nat.ble (d + 1) nt then ∀ v, S v → k ⟨nt, updF s d v, H, U, X⟩ else False
       | none => match opNd T op d (evalO s) H U with
         | some F => bif Nat.ble (d + 1) nt then F fun v H U => k ⟨nt, updF s d v, H, U, X⟩ else False
         | none => False) := by
     rw [hs]; exact h
    cases op <;> first
     | exact goal
     | (cases hp)
     | (rename_i c; obtain ⟨callee, cargs, cts⟩ := c; cases callee <;> first | exact goal | (cases hp))
   ·exact h.elim
theorem pureStep_astep {o : Oper} {k : ASt → Prop} (h : pureStep T o st k) : astep P T ops Q o st k := by
 obtain ⟨hg, h⟩ := pureStep_stepK (P := P) (Q := Q) h
 unfold astep; rw [hg]; exact h

theorem stepT_imp {i : Nat} {o : Oper} {k k' : ASt → Prop} (h : stepT P T ops Q pu rd i o st k) (hk : ∀ s, k s → k' s) : stepT P T ops Q pu rd i o st k' := by
 unfold stepT at h ⊢
 cases hp : memN i pu with
 | true => rw [hp] at h; exact pureStep_imp h hk
 | false =>
   rw [hp] at h
   simp only [cond_false] at h ⊢
   cases hr : memN i rd && plainOp o.op with
   | true => rw [hr] at h; exact rdStep_imp h hk
   | false => rw [hr] at h; exact astep_imp h hk
theorem stepT_astep {i : Nat} {o : Oper} {k : ASt → Prop} (h : stepT P T ops Q pu rd i o st k) : astep P T ops Q o st k := by
 unfold stepT at h
 cases hp : memN i pu with
 | true => rw [hp] at h; exact pureStep_astep h
 | false =>
   rw [hp] at h
   simp only [cond_false] at h
   cases hr : memN i rd && plainOp o.op with
   | true => rw [hr] at h; rw [Bool.and_eq_true] at hr; exact rdStep_astep hr.2 h
   | false => rw [hr] at h; exact h

theorem floats_out {y x : Oper} {d : Nat} {v : AV} (hd : y.dst = some d) (hf : floats y x = true) : x.dst ≠ some d ∧ (∀ s, ∀ u ∈ x.op.operands.toList, evalO (updF s d v) u = evalO s u) ∧
  (∀ u ∈ y.op.operands.toList, ∀ t, u = .tmp t → x.dst ≠ some t) := by
 unfold floats at hf
 rw [hd] at hf
 simp only [Bool.and_eq_true, List.all_eq_true] at hf
 obtain ⟨⟨h1, h2⟩, h3⟩ := hf
 refine ⟨fun e => ?_, fun s u hu => evalO_ne (h2 u hu), fun u hu t ht e => ?_⟩
 ·rw [e] at h1; simp only [Nat.beq_refl, Bool.not_true] at h1; cases h1
 ·have := h3 u hu
  subst ht
  rw [e] at this
  simp only [Nat.beq_refl, Bool.not_true] at this; cases this

theorem floatA {y x : Oper} {k : ASt → Prop} {G : Nat → Bool} (hQ : ∀ r nt s s' H U X, (∀ t, G t = true → s t = s' t) → Q (.panic r) ⟨nt, s, H, U, X⟩ → Q (.panic r) ⟨nt, s', H, U, X⟩) (hGy : ∀ d, y.dst = some d → G d = false) (hf : floatsG ops y x = true) (h : pureStep T y st fun s => astep P T ops Q x s k) : astep P T ops Q x st (fun s => pureStep T y s k) := by
 obtain ⟨nt, s, H, U, X⟩ := st
 obtain ⟨yd, yop, yt, yp, ya, yg⟩ := y
 unfold pureStep at h
 simp only at h
 cases yg with
 | some _ => exact h.elim
 | none =>
 cases yd with
 | none => exact h.elim
 | some d =>
 simp only at h
 cases hr : pureSem T yop (evalO s) with
 | none => rw [hr] at h; exact h.elim
 | some r =>
 obtain ⟨ob, v, eff⟩ := r
 rw [hr] at h
 cases eff with
 | upd _ _ => exact h.elim
 | app _ _ => exact h.elim
 | new _ _ => exact h.elim
 | none =>
 cases hb : Nat.ble (d + 1) nt with
 | false => rw [hb] at h; exact h.elim
 | true =>
 rw [hb] at h
 simp only [cond_true] at h
 simp only [floatsG, Bool.and_eq_true, Bool.not_eq_true'] at hf
 obtain ⟨f1, f2, f3⟩ := floats_out (v := v) rfl hf.1
 have h0 : astep P T ops Q x ⟨nt, updF s d v, H, U, X⟩ k := by cases ob with
  | none => exact h
  | some _ => exact h.2
 have hob : ∀ {p : Prop}, p → oblK ob p := fun {p} hp => by cases ob with
  | none => exact hp
  | some _ => exact ⟨h.1, hp⟩
 refine astep_imp (astep_slot hQ (hGy d rfl) f1 f2 hf.2 h0) fun s' hs' => ?_
 obtain ⟨⟨hnt, hsl⟩, hk⟩ := hs'
 obtain ⟨nt', s', H', U', X'⟩ := s'
 simp only at hnt hsl hk
 subst hnt
 unfold pureStep
 have e : pureSem T yop (evalO s') = some ⟨ob, v, .none⟩ := by
  rw [← hr]
  refine pureSem_local fun u hu => ?_
  cases u with
  | tmp t => exact hsl t (f3 _ hu t rfl)
  | _ => rfl
 simp only [e, hb, cond_true]
 exact hob hk
def semStep (f : Op → Nat → (Operand → Option AV) → Heap → Option Res) (o : Oper) (st : ASt) (k : ASt → Prop) : Prop :=
 match st with
 | ⟨nt, s, H, U, X⟩ =>
 match o.guard, o.dst with
 | none, some d =>
   match f o.op d (evalO s) H with
   | some ⟨ob, v, .none⟩ => bif Nat.ble (d + 1) nt then oblK ob (k ⟨nt, updF s d v, H, U, X⟩) else False
   | _ => False
 | _, _ => False
def SemLoc (f : Op → Nat → (Operand → Option AV) → Heap → Option Res) : Prop := ∀ (op : Op) (d : Nat) (ev ev' : Operand → Option AV) (H : Heap), (∀ y ∈ op.operands.toList, ev y = ev' y) → f op d ev H = f op d ev' H
theorem floatS {f g : Op → Nat → (Operand → Option AV) → Heap → Option Res} (hlf : SemLoc f) (hlg : SemLoc g) {y x : Oper} {k : ASt → Prop} (hf : floatsG ops y x = true) (h : semStep f y st fun s => semStep g x s k) : semStep g x st (fun s => semStep f y s k) := by
 obtain ⟨nt, s, H, U, X⟩ := st
 obtain ⟨yd, yop, yt, yp, ya, yg⟩ := y
 obtain ⟨xd, xop, xt, xp, xa, xg⟩ := x
 unfold semStep at h ⊢
 simp only at h ⊢
 cases yg with
 | some _ => exact h.elim
 | none =>
 cases yd with
 | none => exact h.elim
 | some d =>
 simp only at h
 split at h
 ·rename_i ob v hr
  cases hb : Nat.ble (d + 1) nt with
  | false => rw [hb] at h; exact h.elim
  | true =>
  rw [hb] at h
  simp only [cond_true] at h
  simp only [floatsG, Bool.and_eq_true] at hf
  obtain ⟨f1, f2, f3⟩ := floats_out (v := v) rfl hf.1
  have hob : ∀ {p : Prop}, p → oblK ob p := fun {p} hp => by cases ob with
   | none => exact hp
   | some _ => exact ⟨h.1, hp⟩
  have h0 := h
  replace h0 := (show oblK ob _ → _ from fun h => by cases ob with
   | none => exact h
   | some _ => exact h.2) h0
  cases xg with
  | some _ => exact h0.elim
  | none =>
  cases xd with
  | none => exact h0.elim
  | some e =>
  simp only at h0 ⊢
  have hs : g xop e (evalO (updF s d v)) H = g xop e (evalO s) H := hlg _ _ _ _ _ (f2 s)
  rw [hs] at h0
  split at h0
  ·rename_i ob2 v2 hr2
   cases hb2 : Nat.ble (e + 1) nt with
   | false => rw [hb2] at h0; exact h0.elim
   | true =>
   rw [hb2] at h0
   simp only [cond_true] at h0 ⊢
   have hy : f yop d (evalO (updF s e v2)) H = some ⟨ob, v, .none⟩ := by
    rw [← hr]
    refine hlf _ _ _ _ _ (fun u hu => ?_)
    cases u with
    | tmp t => exact updF_ne _ _ fun hh => f3 _ hu t rfl (by rw [hh])
    | _ => rfl
   have hne : d ≠ e := fun hh => f1 (by rw [hh])
   refine oblK_imp h0 fun hk => ?_
   simp only [hy, hb, cond_true]
   rw [updF_comm _ _ _ hne] at hk
   exact hob hk
  ·exact h0.elim
 ·exact h.elim

theorem pureStep_sem {o : Oper} {k : ASt → Prop} : pureStep T o st k = semStep (fun op _ ev _ => pureSem T op ev) o st k := by obtain ⟨nt, s, H, U, X⟩ := st; rfl
theorem rdStep_sem {o : Oper} {k : ASt → Prop} : rdStep T o st k = semStep (opSem T) o st k := by obtain ⟨nt, s, H, U, X⟩ := st; rfl
theorem pure_loc : SemLoc (fun op _ ev _ => pureSem T op ev) := fun _ _ _ _ _ h => pureSem_local h
theorem read_loc : SemLoc (opSem T) := fun _ _ _ _ _ h => opSem_local h fun _ _ _ _ _ _ => rfl
theorem stepT_pu {i : Nat} {o : Oper} {k : ASt → Prop} (h : memN i pu = true) : stepT P T ops Q pu rd i o st k = semStep (fun op _ ev _ => pureSem T op ev) o st k := by unfold stepT; rw [h]; exact pureStep_sem
theorem stepT_rd {i : Nat} {o : Oper} {k : ASt → Prop} (h : memN i pu = false) (h2 : (memN i rd && plainOp o.op) = true) : stepT P T ops Q pu rd i o st k = semStep (opSem T) o st k := by unfold stepT; rw [h, h2]; exact rdStep_sem
theorem stepT_any {i : Nat} {o : Oper} {k : ASt → Prop} (h : memN i pu = false) (h2 : (memN i rd && plainOp o.op) = false) : stepT P T ops Q pu rd i o st k = astep P T ops Q o st k := by unfold stepT; rw [h, h2]; rfl
theorem comT_front {x z : Nat} {ox oz : Oper} {k : ASt → Prop} {G : Nat → Bool} (hQ : ∀ r nt s s' H U X, (∀ t, G t = true → s t = s' t) → Q (.panic r) ⟨nt, s, H, U, X⟩ → Q (.panic r) ⟨nt, s', H, U, X⟩) (hG : ∀ o ∈ ops, ∀ d, o.dst = some d → G d = false) (hx : ops[x]? = some ox) (hz : ops[z]? = some oz) (hc : comT ops pu rd x z = true)
  (h : stepT P T ops Q pu rd x ox st fun s => stepT P T ops Q pu rd z oz s k) : stepT P T ops Q pu rd z oz st fun s => stepT P T ops Q pu rd x ox s k := by
 unfold comT at hc
 simp only [hx, hz, Bool.and_eq_true] at hc
 obtain ⟨hf, hc⟩ := hc
 cases hpx : memN x pu with
 | true =>
   simp only [stepT_pu hpx] at h ⊢
   cases hpz : memN z pu with
   | true => simp only [stepT_pu hpz] at h ⊢; exact floatS pure_loc pure_loc hf h
   | false =>
     cases hrz : memN z rd && plainOp oz.op with
     | true => simp only [stepT_rd hpz hrz] at h ⊢; exact floatS pure_loc read_loc hf h
     | false =>
       simp only [stepT_any hpz hrz, ← pureStep_sem] at h ⊢
       exact floatA hQ (hG ox (List.mem_of_getElem? hx)) hf h
 | false =>
   rw [hpx, Bool.false_or, Bool.and_eq_true, Bool.and_eq_true, Bool.or_eq_true] at hc
   obtain ⟨hrx, hc⟩ := hc
   simp only [stepT_rd hpx (by rw [hrx.1, hrx.2]; rfl)] at h ⊢
   cases hpz : memN z pu with
   | true => simp only [stepT_pu hpz] at h ⊢; exact floatS read_loc pure_loc hf h
   | false =>
     rw [hpz] at hc
     have hrz : (memN z rd && plainOp oz.op) = true := hc.resolve_left (by decide)
     simp only [stepT_rd hpz hrz] at h ⊢
     exact floatS read_loc read_loc hf h

def front (ops : List Oper) (pu rd : List Nat) (x : Nat) (l : List Nat) : Prop := ∃ l1 l2, l = l1 ++ x :: l2 ∧ ∀ z ∈ l1, comT ops pu rd x z = true
theorem aopsT_front {x : Nat} {ox : Oper} {G : Nat → Bool} (hQ : ∀ r nt s s' H U X, (∀ t, G t = true → s t = s' t) → Q (.panic r) ⟨nt, s, H, U, X⟩ → Q (.panic r) ⟨nt, s', H, U, X⟩) (hG : ∀ o ∈ ops, ∀ d, o.dst = some d → G d = false) (hx : ops[x]? = some ox) : ∀ (l1 l2 : List Nat) (st : ASt), (∀ z ∈ l1, comT ops pu rd x z = true) →
  stepT P T ops Q pu rd x ox st (aopsT P T ops Q pu rd (l1 ++ l2)) → aopsT P T ops Q pu rd (l1 ++ x :: l2) st := by
 intro l1
 induction l1 with
 | nil => intro l2 st _ h; simp only [List.nil_append, aopsT, hx]; exact h
 | cons z l1 ih =>
   intro l2 st hc h
   have hcz := hc z (List.mem_cons_self ..)
   cases hz : ops[z]? with
   | none => unfold comT at hcz; rw [hx, hz] at hcz; cases hcz
   | some oz =>
     simp only [List.cons_append, aopsT, hz]
     have h1 : stepT P T ops Q pu rd x ox st fun s => stepT P T ops Q pu rd z oz s (aopsT P T ops Q pu rd (l1 ++ l2)) := stepT_imp h fun s hs => by
      simp only [List.cons_append, aopsT, hz] at hs; exact hs
     exact stepT_imp (comT_front hQ hG hx hz hcz h1) fun s hs => ih l2 s (fun z hz => hc z (List.mem_cons_of_mem _ hz)) hs
theorem aopsT_aops : ∀ (l : List Nat) (st : ASt), aopsT P T ops Q pu rd l st → aops P T ops Q l st := by
 intro l
 induction l with
 | nil => intro st h; exact h
 | cons x l ih =>
   intro st h
   simp only [aopsT] at h
   cases hx : ops[x]? with
   | none => rw [hx] at h; exact h.elim
   | some o =>
     rw [hx] at h
     have h1 := stepT_astep (stepT_imp h fun s hs => ih s hs)
     simp only [aops, hx]
     exact h1

def ext (ops : List Oper) : List Nat → List Nat → Prop
 | acc, [] => ∀ i, readyB ops acc i = false
 | acc, x :: l => readyB ops acc x = true ∧ ext ops (x :: acc) l
theorem readyB_mono {acc acc' : List Nat} {x : Nat} (hm : ∀ i, memN i acc = true → memN i acc' = true) (hx : memN x acc' = false) (h : readyB ops acc x = true) : readyB ops acc' x = true := by
 unfold readyB at h ⊢
 rw [Bool.and_eq_true] at h ⊢
 refine ⟨by rw [hx]; rfl, ?_⟩
 cases ho : ops[x]? with
 | none => rw [ho] at h; exact absurd h.2 (by simp)
 | some o =>
   rw [ho] at h
   have h2 := h.2
   simp only [List.all_eq_true, Bool.or_eq_true] at h2 ⊢
   exact fun e he => (h2 e he).imp id (hm _)
theorem readyB_congr {acc acc' : List Nat} {x : Nat} (hm : ∀ i, memN i acc = memN i acc') : readyB ops acc x = readyB ops acc' x := by
 unfold readyB
 rw [hm x]
 congr 1
 cases ops[x]? with
 | none => rfl
 | some o => simp only [hm]
theorem ext_congr : ∀ {l acc acc' : List Nat}, (∀ i, memN i acc = memN i acc') → ext ops acc l → ext ops acc' l := by
 intro l
 induction l with
 | nil => intro acc acc' hm h i; rw [← readyB_congr hm]; exact h i
 | cons x l ih => intro acc acc' hm h; exact ⟨by rw [← readyB_congr hm]; exact h.1, ih (fun i => by simp only [memN, hm]) h.2⟩
theorem readyB_not {acc : List Nat} {x : Nat} (h : readyB ops acc x = true) : memN x acc = false := by
 unfold readyB at h; rw [Bool.and_eq_true, Bool.not_eq_true'] at h; exact h.1
theorem ext_not : ∀ {l acc : List Nat} {x : Nat}, ext ops acc l → x ∈ l → memN x acc = false := by
 intro l
 induction l with
 | nil => intro _ _ _ h; cases h
 | cons y l ih =>
   intro acc x h hx
   rcases List.mem_cons.mp hx with rfl | hx
   ·exact readyB_not h.1
   ·have := ih h.2 hx
    simp only [memN, Bool.or_eq_false_iff] at this
    exact this.2
theorem ext_front {x : Nat} : ∀ {l1 l2 acc : List Nat}, ext ops acc (l1 ++ x :: l2) → readyB ops acc x = true → ext ops (x :: acc) (l1 ++ l2) := by
 intro l1
 induction l1 with
 | nil => intro l2 acc h _; exact h.2
 | cons z l1 ih =>
   intro l2 acc h hx
   have hne : memN x (z :: acc) = false := ext_not h.2 (by simp)
   have h1 := ih h.2 (readyB_mono (fun i hi => by simp only [memN, hi, Bool.or_true]) hne hx)
   simp only [memN, Bool.or_eq_false_iff] at hne
   refine ⟨readyB_mono (fun i hi => by simp only [memN, hi, Bool.or_true]) ?_ h.1, ext_congr (fun i => ?_) h1⟩
   ·simp only [memN, Bool.or_eq_false_iff]
    refine ⟨beqN_ne fun e => ?_, readyB_not h.1⟩
    subst e; rw [Nat.beq_refl] at hne; cases hne.1
   ·simp only [memN]
    cases Nat.beq i x <;> cases Nat.beq i z <;> rfl
theorem ext_mem : ∀ {l acc : List Nat} {x : Nat}, ext ops acc l → readyB ops acc x = true → x ∈ l := by
 intro l
 induction l with
 | nil => intro acc x h hx; rw [h x] at hx; cases hx
 | cons y l ih =>
   intro acc x h hx
   by_cases e : x = y
   ·subst e; exact List.mem_cons_self ..
   ·refine List.mem_cons_of_mem _ (ih h.2 (readyB_mono (fun i hi => by simp only [memN, hi, Bool.or_true]) ?_ hx))
    simp only [memN, beqN_ne e, Bool.false_or]; exact readyB_not hx
theorem ext_binds {x : Nat} : ∀ {l1 l2 acc : List Nat}, ext ops acc (l1 ++ x :: l2) → ∀ z ∈ l1, ∀ oz, ops[z]? = some oz → bindsB oz x = false := by
 intro l1
 induction l1 with
 | nil => intro _ _ _ z hz; cases hz
 | cons y l1 ih =>
   intro l2 acc h z hz oz ho
   rcases List.mem_cons.mp hz with rfl | hz
   ·cases hb : bindsB oz x with
    | false => rfl
    | true =>
      simp only [bindsB, List.any_eq_true, Bool.and_eq_true] at hb
      obtain ⟨e, he, hbe, hex⟩ := hb
      obtain rfl := Nat.eq_of_beq_eq_true hex
      have h1 := h.1
      unfold readyB at h1
      rw [ho, Bool.and_eq_true] at h1
      have h2 := h1.2
      simp only [List.all_eq_true, Bool.or_eq_true] at h2
      rcases h2 e he with h3 | h3
      ·rw [hbe] at h3; cases h3
      ·have h4 : memN e.on (z :: acc) = false := ext_not h.2 (by simp)
       simp only [memN, Bool.or_eq_false_iff] at h4
       rw [h4.2] at h3; cases h3
   ·exact ih h.2 z hz oz ho
theorem ext_lt : ∀ {l acc : List Nat}, ext ops acc l → ∀ z ∈ l, z < ops.length := by
 intro l
 induction l with
 | nil => intro _ _ z hz; cases hz
 | cons y l ih =>
   intro acc h z hz
   rcases List.mem_cons.mp hz with rfl | hz
   ·have h1 := h.1
    unfold readyB at h1
    cases ho : ops[z]? with
    | none => rw [ho] at h1; simp at h1
    | some o => exact (List.getElem?_eq_some_iff.mp ho).1
   ·exact ih h.2 z hz

theorem child_ok {x : Nat} {acc sl seen l1 l2 : List Nat} (hr : readyB ops acc x = true) (he : ext ops acc (l1 ++ x :: l2)) (hsl : ∀ s, s ∈ sl → ¬ front ops pu rd s (l1 ++ x :: l2)) (hse : ∀ s, s ∈ seen → ¬ front ops pu rd s (l1 ++ x :: l2)) :
  ext ops (x :: acc) (l1 ++ l2) ∧ ∀ s, s ∈ ((sl ++ seen).filter fun s => comT ops pu rd s x) → ¬ front ops pu rd s (l1 ++ l2) := by
 refine ⟨ext_front he hr, fun u hu hfu => ?_⟩
 rw [List.mem_filter, List.mem_append] at hu
 have hnot : ¬ front ops pu rd u (l1 ++ x :: l2) := hu.1.elim (hsl u) (hse u)
 apply hnot
 obtain ⟨m1, m2, hm, hcm⟩ := hfu
 rcases List.append_eq_append_iff.mp hm with ⟨a, h1, h2⟩ | ⟨a, h1, h2⟩
 ·exact ⟨l1 ++ x :: a, m2, by rw [h2]; simp, fun z hz => by
   simp only [List.mem_append, List.mem_cons] at hz
   rcases hz with hz | rfl | hz
   ·exact hcm z (by rw [h1]; simp [hz])
   ·exact hu.2
   ·exact hcm z (by rw [h1]; simp [hz])⟩
 ·cases a with
  | nil =>
    simp only [List.append_nil, List.nil_append] at h1 h2
    exact ⟨l1 ++ [x], m2, by rw [← h2]; simp, fun z hz => by
     simp only [List.mem_append, List.mem_singleton] at hz
     rcases hz with hz | rfl
     ·exact hcm z (by rw [← h1]; exact hz)
     ·exact hu.2⟩
  | cons b a =>
    simp only [List.cons_append, List.cons.injEq] at h2
    obtain ⟨rfl, rfl⟩ := h2
    exact ⟨m1, a ++ x :: l2, by rw [h1]; simp, hcm⟩
theorem cover_front {x : Nat} {acc sl seen l : List Nat} (hr : readyB ops acc x = true) (he : ext ops acc l) (hsl : ∀ s, s ∈ sl → ¬ front ops pu rd s l) (hse : ∀ s, s ∈ seen → ¬ front ops pu rd s l)
  (hcov : ((memN x pu && (List.range ops.length).all fun z => memN z acc || Nat.beq z x || (match ops[z]? with | some oz => bindsB oz x | none => false) || comT ops pu rd x z) ||
     (List.range ops.length).all fun i => !readyB ops acc i || memN i sl || memN i seen || Nat.beq i x) = true) : front ops pu rd x l := by
 rw [Bool.or_eq_true] at hcov
 rcases hcov with hcov | hcov
 ·rw [Bool.and_eq_true] at hcov
  obtain ⟨l1, l2, rfl⟩ := List.append_of_mem (ext_mem he hr)
  refine ⟨l1, l2, rfl, fun z hz => ?_⟩
  have h1 := List.all_eq_true.mp hcov.2 z (List.mem_range.mpr (ext_lt he z (by simp [hz])))
  rw [Bool.or_eq_true, Bool.or_eq_true, Bool.or_eq_true] at h1
  rcases h1 with ((h1 | h1) | h1) | h1
  ·rw [ext_not he (by simp [hz])] at h1; cases h1
  ·exfalso
   have := Nat.eq_of_beq_eq_true h1
   subst this
   have h2 := ext_front he hr
   have h3 := ext_not h2 (show z ∈ l1 ++ l2 by simp [hz])
   simp only [memN, Nat.beq_refl, Bool.true_or] at h3; cases h3
  ·exfalso
   cases ho : ops[z]? with
   | none => rw [ho] at h1; cases h1
   | some oz => rw [ho] at h1; simp only at h1; rw [ext_binds he z hz oz ho] at h1; cases h1
  ·exact h1
 ·cases l with
  | nil => rw [he x] at hr; cases hr
  | cons y l =>
    have h1 := List.all_eq_true.mp hcov y (List.mem_range.mpr (ext_lt he y (List.mem_cons_self ..)))
    have hfy : front ops pu rd y (y :: l) := ⟨[], l, rfl, fun z hz => by cases hz⟩
    rw [he.1] at h1
    simp only [Bool.not_true, Bool.false_or, Bool.or_eq_true] at h1
    rcases h1 with (h1 | h1) | h1
    ·exact absurd hfy (hsl y (memN_iff.mp h1))
    ·exact absurd hfy (hse y (memN_iff.mp h1))
    ·rw [← Nat.eq_of_beq_eq_true h1]; exact hfy
theorem dead_none : ∀ (t : Tr) (acc sl seen l : List Nat), okTr ops pu rd t acc sl seen = true → allDead t = true → ext ops acc l → (∀ s, s ∈ sl → ¬ front ops pu rd s l) → (∀ s, s ∈ seen → ¬ front ops pu rd s l) → False := by
 intro t
 have nil : ∀ l : List Nat, ∀ s, s ∈ ([] : List Nat) → ¬ front ops pu rd s l := fun _ _ h => by cases h
 have dd : ∀ (acc sl seen l : List Nat), okTr ops pu rd .dead acc sl seen = true → ext ops acc l → (∀ s, s ∈ sl → ¬ front ops pu rd s l) → (∀ s, s ∈ seen → ¬ front ops pu rd s l) → False := by
  intro acc sl seen l hok he hsl hse
  simp only [okTr, Bool.and_eq_true, List.any_eq_true, List.all_eq_true, Bool.or_eq_true, Bool.not_eq_true'] at hok
  obtain ⟨⟨i, _, hi⟩, hall⟩ := hok
  cases l with
  | nil => rw [he i] at hi; cases hi
  | cons y l =>
    have hfy : front ops pu rd y (y :: l) := ⟨[], l, rfl, fun z hz => by cases hz⟩
    rcases hall y (List.mem_range.mpr (ext_lt he y (List.mem_cons_self ..))) with (h | h) | h
    ·rw [he.1] at h; cases h
    ·exact hsl y (memN_iff.mp h) hfy
    ·exact hse y (memN_iff.mp h) hfy
 induction t with
 | done => intro _ _ _ _ _ hd; cases hd
 | dead => intro acc sl seen l hok _ he hsl hse; exact dd acc sl seen l hok he hsl hse
 | alt x t ih =>
   intro acc sl seen l hok hd he hsl hse
   simp only [okTr] at hok
   rw [Bool.and_eq_true, Bool.and_eq_true] at hok
   obtain ⟨l1, l2, rfl, _⟩ := cover_front hok.1.1 he hsl hse hok.2
   obtain ⟨h1, h2⟩ := child_ok hok.1.1 he hsl hse
   exact ih _ _ _ _ hok.1.2 hd h1 h2 (nil _)
 | br x t r iht ihr =>
   intro acc sl seen l hok hd he hsl hse
   simp only [okTr, Bool.and_eq_true] at hok
   simp only [allDead, Bool.and_eq_true] at hd
   by_cases hf : front ops pu rd x l
   ·obtain ⟨l1, l2, rfl, _⟩ := hf
    obtain ⟨h1, h2⟩ := child_ok hok.1.1 he hsl hse
    exact iht _ _ _ _ hok.1.2 hd.1 h1 h2 (nil _)
   ·exact ihr acc sl (x :: seen) l hok.2 hd.2 he hsl (fun s hs => by
     rcases List.mem_cons.mp hs with rfl | hs
     ·exact hf
     ·exact hse s hs)
 | skip t ih =>
   intro acc sl seen l hok hd he hsl hse
   simp only [okTr, Bool.and_eq_true] at hok
   exact ih acc sl seen l hok.2 hok.1 he hsl hse
 | cut x t r iht ihr =>
   intro acc sl seen l hok hd he hsl hse
   simp only [okTr, Bool.and_eq_true] at hok
   simp only [allDead, Bool.and_eq_true] at hd
   by_cases hf : front ops pu rd x l
   ·obtain ⟨l1, l2, rfl, _⟩ := hf
    obtain ⟨h1, h2⟩ := child_ok hok.1.1 he hsl hse
    exact iht _ _ _ _ hok.1.2.2 hd.1 h1 h2 (nil _)
   ·exact ihr acc sl (x :: seen) l hok.2 hd.2 he hsl (fun s hs => by
     rcases List.mem_cons.mp hs with rfl | hs
     ·exact hf
     ·exact hse s hs)
theorem tree_sound {G : Nat → Bool} (hQ : ∀ r nt s s' H U X, (∀ t, G t = true → s t = s' t) → Q (.panic r) ⟨nt, s, H, U, X⟩ → Q (.panic r) ⟨nt, s', H, U, X⟩) (hG : ∀ o ∈ ops, ∀ d, o.dst = some d → G d = false) : ∀ (t : Tr) (acc sl seen l : List Nat) (st : ASt), okTr ops pu rd t acc sl seen = true → trP P T ops Q pu rd t st → ext ops acc l →
  (∀ s, s ∈ sl → ¬ front ops pu rd s l) → (∀ s, s ∈ seen → ¬ front ops pu rd s l) → aopsT P T ops Q pu rd l st := by
 intro t
 have nil : ∀ l : List Nat, ∀ s, s ∈ ([] : List Nat) → ¬ front ops pu rd s l := fun _ _ h => by cases h
 -- a branch that is taken
 have take : ∀ (t : Tr), (∀ (acc sl seen l : List Nat) (st : ASt), okTr ops pu rd t acc sl seen = true → trP P T ops Q pu rd t st → ext ops acc l → (∀ s, s ∈ sl → ¬ front ops pu rd s l) → (∀ s, s ∈ seen → ¬ front ops pu rd s l) → aopsT P T ops Q pu rd l st) →
   ∀ (x : Nat) (acc sl seen l : List Nat) (st : ASt), readyB ops acc x = true → okTr ops pu rd t (x :: acc) ((sl ++ seen).filter fun s => comT ops pu rd s x) [] = true →
   (match ops[x]? with
     | none => False
     | some o => stepT P T ops Q pu rd x o st (trP P T ops Q pu rd t)) → ext ops acc l → (∀ s, s ∈ sl → ¬ front ops pu rd s l) → (∀ s, s ∈ seen → ¬ front ops pu rd s l) → front ops pu rd x l → aopsT P T ops Q pu rd l st := by
  intro t ih x acc sl seen l st hr hok hst he hsl hse hfr
  obtain ⟨l1, l2, rfl, hc⟩ := hfr
  obtain ⟨h1, h2⟩ := child_ok hr he hsl hse
  cases hx : ops[x]? with
  | none => rw [hx] at hst; exact hst.elim
  | some ox =>
    rw [hx] at hst
    exact aopsT_front hQ hG hx l1 l2 st hc (stepT_imp hst fun s hs => ih _ _ _ _ s hok hs h1 h2 (nil _))
 induction t with
 | done =>
   intro acc sl seen l st hok h he _ _
   simp only [okTr, List.all_eq_true, Bool.not_eq_true'] at hok
   cases l with
   | nil => exact h
   | cons x l =>
     have := hok x (List.mem_range.mpr (ext_lt he x (List.mem_cons_self ..)))
     rw [he.1] at this; cases this
 | dead => intro acc sl seen l st hok _ he hsl hse; exact (dead_none .dead acc sl seen l hok rfl he hsl hse).elim
 | skip t _ =>
   intro acc sl seen l st hok _ he hsl hse
   simp only [okTr, Bool.and_eq_true] at hok
   exact (dead_none t acc sl seen l hok.2 hok.1 he hsl hse).elim
 | alt x t ih =>
   intro acc sl seen l st hok h he hsl hse
   simp only [okTr] at hok
   rw [Bool.and_eq_true, Bool.and_eq_true] at hok
   exact take t ih x acc sl seen l st hok.1.1 hok.1.2 h he hsl hse (cover_front hok.1.1 he hsl hse hok.2)
 | br x t r iht ihr =>
   intro acc sl seen l st hok h he hsl hse
   simp only [okTr, Bool.and_eq_true] at hok
   obtain ⟨⟨hr, hokt⟩, hokr⟩ := hok
   by_cases hf : front ops pu rd x l
   ·exact take t iht x acc sl seen l st hr hokt h.l he hsl hse hf
   ·exact ihr acc sl (x :: seen) l st hokr h.r he hsl (fun s hs => by
     rcases List.mem_cons.mp hs with rfl | hs
     ·exact hf
     ·exact hse s hs)
 | cut x t r iht ihr =>
   intro acc sl seen l st hok h he hsl hse
   simp only [okTr, Bool.and_eq_true] at hok
   obtain ⟨⟨hr, hokt⟩, hokr⟩ := hok
   by_cases hf : front ops pu rd x l
   ·obtain ⟨l1, l2, rfl, _⟩ := hf
    obtain ⟨h1, h2⟩ := child_ok hr he hsl hse
    exact (dead_none t _ _ _ _ hokt.2 hokt.1 h1 h2 (nil _)).elim
   ·exact ihr acc sl (x :: seen) l st hokr h he hsl (fun s hs => by
     rcases List.mem_cons.mp hs with rfl | hs
     ·exact hf
     ·exact hse s hs)

theorem ords_ext : ∀ (n : Nat) (R acc l : List Nat), R.length = n → R.Nodup → (∀ i, i < ops.length → (i ∈ R ↔ memN i acc = false)) → l ∈ ordsGo ops n acc → ∃ l', l = acc.reverse ++ l' ∧ ext ops acc l' := by
 intro n
 induction n with
 | zero =>
   intro R acc l hn hnd hR hl
   simp only [ordsGo, List.mem_singleton] at hl
   obtain rfl := List.eq_nil_of_length_eq_zero hn
   refine ⟨[], by simp [hl], fun i => ?_⟩
   cases hr : readyB ops acc i with
   | false => rfl
   | true =>
     exfalso
     have h1 := readyB_not hr
     unfold readyB at hr
     cases ho : ops[i]? with
     | none => rw [ho] at hr; simp at hr
     | some o =>
       have := (hR i (List.getElem?_eq_some_iff.mp ho).1).mpr h1
       cases this
 | succ n ih =>
   intro R acc l hn hnd hR hl
   simp only [ordsGo] at hl
   cases hrd : readyL ops acc with
   | nil =>
     rw [hrd] at hl
     simp only [List.mem_singleton] at hl
     refine ⟨[], by simp [hl], fun i => ?_⟩
     cases hr : readyB ops acc i with
     | false => rfl
     | true =>
       exfalso
       have hi : i ∈ readyL ops acc := by
        unfold readyL
        rw [List.mem_filter, List.mem_range]
        refine ⟨?_, hr⟩
        unfold readyB at hr
        cases ho : ops[i]? with
        | none => rw [ho] at hr; simp at hr
        | some o => exact (List.getElem?_eq_some_iff.mp ho).1
       rw [hrd] at hi; cases hi
   | cons j rs =>
     rw [hrd] at hl
     simp only at hl
     obtain ⟨x, hx, hl⟩ := List.mem_flatMap.mp hl
     rw [← hrd] at hx
     unfold readyL at hx
     rw [List.mem_filter, List.mem_range] at hx
     obtain ⟨hlt, hx2⟩ := hx
     have hrx : readyB ops acc x = true := hx2
     have hxR := (hR x hlt).mpr (readyB_not hrx)
     obtain ⟨R1, R2, rfl⟩ := List.append_of_mem hxR
     have hnd' : (R1 ++ R2).Nodup ∧ x ∉ R1 ++ R2 := by
      have h1 : (x :: (R1 ++ R2)).Nodup := (List.perm_middle.nodup_iff).mp hnd
      rw [List.nodup_cons] at h1
      exact ⟨h1.2, h1.1⟩
     obtain ⟨l', rfl, he⟩ := ih (R1 ++ R2) (x :: acc) l (by simp at hn ⊢; omega) hnd'.1 (fun i hi => by
      have h0 := hR i hi
      simp only [List.mem_append, List.mem_cons] at h0 ⊢
      simp only [memN, Bool.or_eq_false_iff]
      constructor
      ·intro hm
       refine ⟨beqN_ne (fun e => hnd'.2 (by subst e; simpa using hm)), h0.mp (hm.elim .inl (fun h => .inr (.inr h)))⟩
      ·rintro ⟨h1, h2⟩
       rcases h0.mpr h2 with h | h | h
       ·exact .inl h
       ·subst h; rw [Nat.beq_refl] at h1; cases h1
       ·exact .inr h) hl
     exact ⟨x :: l', by simp, hrx, he⟩

theorem awp_treeG (hT : T.ok P = true) (hmix : P.follows .mixedOrders = true) {id : Nat} {ops : Array Oper} (pu rd : List Nat) (t : Tr) (hok : okTr ops.toList pu rd t [] [] [] = true)
  (G : Nat → Bool) (hG : (ops.toList.all fun o => match o.dst with | some d => !(G d) | none => true) = true) (hQ : ∀ r nt s s' H U X, (∀ t, G t = true → s t = s' t) → Q (.panic r) ⟨nt, s, H, U, X⟩ → Q (.panic r) ⟨nt, s', H, U, X⟩) (h : trP P T ops.toList Q pu rd t st) : AWP P (.region id ops true) Q st := by
 have hG' : ∀ o ∈ ops.toList, ∀ d, o.dst = some d → G d = false := fun o ho d hd => by
  have := List.all_eq_true.mp hG o ho
  rw [hd] at this
  simpa using this
 refine awp_orders hT hmix (L := ordsGo ops.toList ops.toList.length []) rfl ?_
 have key : ∀ l ∈ ordsGo ops.toList ops.toList.length [], aops P T ops.toList Q l st := fun l hl => by
  obtain ⟨l', e, he⟩ := ords_ext _ (List.range ops.toList.length) [] l (List.length_range ..) List.nodup_range (fun i hi => ⟨fun _ => rfl, fun _ => List.mem_range.mpr hi⟩) hl
  have e : l = l' := e
  subst e
  exact aopsT_aops _ _ (tree_sound hQ hG' t [] [] [] l st hok h he (fun _ h => by cases h) (fun _ h => by cases h))
 generalize ordsGo ops.toList ops.toList.length [] = L at key
 clear h hok
 induction L with
 | nil => trivial
 | cons x L ih =>
   cases L with
   | nil => exact key x (List.mem_cons_self ..)
   | cons z L => exact ⟨key x (List.mem_cons_self ..), ih fun l hl => key l (List.mem_cons_of_mem _ hl)⟩
theorem awp_tree (hT : T.ok P = true) (hmix : P.follows .mixedOrders = true) {id : Nat} {ops : Array Oper} (pu rd : List Nat) (t : Tr) (hok : okTr ops.toList pu rd t [] [] [] = true)
  (hQ : ∀ r nt s s' H U X, Q (.panic r) ⟨nt, s, H, U, X⟩ → Q (.panic r) ⟨nt, s', H, U, X⟩) (h : trP P T ops.toList Q pu rd t st) : AWP P (.region id ops true) Q st :=
 awp_treeG hT hmix pu rd t hok (fun _ => false) (List.all_eq_true.mpr fun o _ => by cases o.dst <;> rfl) (fun r nt s s' H U X _ => hQ r nt s s' H U X) h
end
end Go.AM
