/- Part of the proof: what the functions that the law calls compute (3). -/
import Derived.Test.YtolgdbekdkldjaaDoorV2
import Derived.Test.YtolgdbekdkldjaaDoorB
import Derived.Shelf.Strings.BuilderX
import Derived.Shelf.RegionOpenPlain
import Derived.Lib.Strings
import Derived.Lib.Slices
import Derived.Lib.Walk
import Derived.Lib.Builder
import Derived.Lib.AppendStr
import Derived.Lib.UnsafeStr
import Derived.WalkKit
import Derived.Laws.Externs
import Derived.KernelRfl
namespace Go.Proofs.YtolgdbekdkldjaaDoor
open Go Go.RowKit
set_option maxHeartbeats 1000000 in
set_option maxRecDepth 100000 in
theorem copy_used (b : Nat) (w : World) (h0 : w.cell? ⟨b, 0, none⟩ = some (.pointer (some ⟨b, 0, none⟩))) :
    Calls Tryd.prog 38 #[.pointer (some ⟨b, 0, none⟩)] w fun e w' => e = .returned (.tuple #[]) ∧ w' = w := by
  obtain ⟨j, hj⟩ : ∃ j, Tryd.prog.info? 60 = some j := Option.isSome_iff_exists.mp (by kernel_rfl)
  go_enter Tryd.func38, Tryd.ntmps38
  go_wp2
  rw [Lib.run_neq_ptr_same w _ Tryd.underlying57 hj]
  go_wp2
  go_end0
  exact ⟨rfl, rfl⟩
theorem lies60 (k : Nat) : liesAt Tryd.prog Tryd.prog.depth 60 (k + 1) 0 60 1 = true := by kernel_rfl
set_option maxHeartbeats 1000000 in
set_option maxRecDepth 100000 in
theorem copy_fresh (b m : Nat) (w : World) (h0 : w.cell? ⟨b, 0, none⟩ = some (.pointer none)) (hm : 2 ≤ m) (hsh : w.shape? b = some (60, m)) (hfz : w.frozen? ⟨b, 0, none⟩ = false) :
    Calls Tryd.prog 38 #[.pointer (some ⟨b, 0, none⟩)] w fun e w' => e = .returned (.tuple #[]) ∧ w' = w.setCell ⟨b, 0, none⟩ (.pointer (some ⟨b, 0, none⟩)) := by
  obtain ⟨j, hj, hjs⟩ : ∃ j, Tryd.prog.info? 60 = some j ∧ j.size = 2 := Option.map_eq_some_iff.mp (show (Tryd.prog.info? 60).map (·.size) = some 2 by kernel_rfl)
  have hlies : liesAt Tryd.prog Tryd.prog.depth 60 (m / Tryd.prog.cellsOf 60) 0 60 1 = true := by
    have h2 : Tryd.prog.cellsOf 60 = 2 := by kernel_rfl
    obtain ⟨k, hk⟩ : ∃ k, m / Tryd.prog.cellsOf 60 = k + 1 := ⟨m / Tryd.prog.cellsOf 60 - 1, by rw [h2]; omega⟩
    rw [hk]
    exact lies60 k
  go_enter Tryd.func38, Tryd.ntmps38
  go_wp2
  rw [Lib.run_to_unsafe w ⟨b, 0, none⟩ Tryd.underlying57 Tryd.underlying98 hj (by rw [hjs]; decide) hsh (by show 0 < m; omega)]
  simp only [Result.andThen]
  rw [Oper.upon_value]
  go_wp2
  rw [run_callFunc_extern Tryd.func54 (by kernel_rfl) (by kernel_rfl) (by kernel_rfl) (e := Extern.AbiNoEscape.same) (by kernel_rfl)]
  rw [Lib.run_noEscape]
  simp only [Result.andThen]
  rw [Oper.upon_value]
  go_wp2
  rw [Lib.run_from_unsafe w ⟨b, 0, none⟩ Tryd.underlying98 Tryd.underlying57 hj hsh hlies]
  simp only [Result.andThen]
  rw [Oper.upon_value]
  go_wp2
  go_end0
  exact ⟨rfl, rfl⟩
set_option maxHeartbeats 1000000 in
set_option maxRecDepth 100000 in
theorem bstring (b g cap cells : Nat) (l : List UInt8) (w : World) (h1 : w.cell? ⟨b, 1, none⟩ = some (.slice (some ⟨g, 0, none⟩) l.length cap)) (hc : cap ≠ 0) (h0 : l ≠ []) (hsh : w.shape? g = some (5, cells)) (hn : l.length ≤ cells) (h63 : l.length ≤ 9223372036854775807)
    (hcell : ∀ j x, l[j]? = some x → w.cell? ((⟨g, 0, none⟩ : Addr).add j) = some (.int .u8 x.toNat)) :
    Calls Tryd.prog 29 #[.pointer (some ⟨b, 0, none⟩)] w fun e w' => e = .returned (.string ⟨l.toArray⟩) ∧ w' = w.drew.freeze ⟨g, 0, none⟩ l.length := by
  have mixed' : Tryd.prog.follows .mixedOrders = true := mixed
  have c1 : w.drew.cell? ⟨b, 1, none⟩ = some (.slice (some ⟨g, 0, none⟩) l.length cap) := h1
  have hSD : (Builtin.unsafeSliceData_ #[58] 83 #[.slice (some ⟨g, 0, none⟩) l.length cap]).run Tryd.prog w.drew = .ok (.pointer (some ⟨g, 0, none⟩)) w.drew :=
    Lib.run_unsafeSliceData_row w.drew _ _ _ _ _ hc
  have hUS : (Builtin.unsafeString_ #[83, 3] 9 #[.pointer (some ⟨g, 0, none⟩), .int .i64 l.length]).run Tryd.prog w.drew = .ok (.string ⟨l.toArray⟩) (w.drew.freeze ⟨g, 0, none⟩ l.length) :=
    Lib.run_unsafeString_row w.drew 83 3 9 5 Tryd.underlying83 (by kernel_rfl) g cells hsh l h0 hn h63 hcell
  go_enter Tryd.func29, Tryd.ntmps29
  go_wp2
  go_region_o
  all_goals (go_wp2; go_ret; exact ⟨rfl, rfl⟩)
set_option maxHeartbeats 1000000 in
set_option maxRecDepth 100000 in
theorem bstring_nil (b : Nat) (w : World) (h1 : w.cell? ⟨b, 1, none⟩ = some (.slice none 0 0)) :
    Calls Tryd.prog 29 #[.pointer (some ⟨b, 0, none⟩)] w fun e w' => e = .returned (.string ⟨#[]⟩) ∧ w' = w.drew := by
  have mixed' : Tryd.prog.follows .mixedOrders = true := mixed
  have c1 : w.drew.cell? ⟨b, 1, none⟩ = some (.slice none 0 0) := h1
  have hSD : (Builtin.unsafeSliceData_ #[58] 83 #[.slice none 0 0]).run Tryd.prog w.drew = .ok (.pointer none) w.drew := Lib.run_unsafeSliceData_nil w.drew _ _ _ _
  have hUS : (Builtin.unsafeString_ #[83, 3] 9 #[.pointer none, .int .i64 0]).run Tryd.prog w.drew = .ok (.string .empty) w.drew := Lib.run_unsafeString_none w.drew 83 3 9 none
  go_enter Tryd.func29, Tryd.ntmps29
  go_wp2
  go_region_o
  all_goals (go_wp2; go_ret; exact ⟨rfl, rfl⟩)
end Go.Proofs.YtolgdbekdkldjaaDoor

namespace Go.Proofs.YtolgdbekdkldjaaDoor
open Go Go.AM Go.RowKit
attribute [local irreducible] AWP PureCall SubS HeapCall
def unitV : AV := .tup 0 fun _ => .nilS
theorem ra_unit {φ : Names} {w : World} {M : Blocks} : Ra φ w M unitV (.tuple #[]) := .tup _ _ _ rfl fun i hi => absurd hi (Nat.not_lt_zero i)
theorem ptr_arg {φ : Names} {w : World} {M : Blocks} {id gen sz : Nat} {xs : Array Value} (h : ArgsAre φ w M [.ptr id gen sz 0 0] xs) : ∃ b, φ id gen = some b ∧ xs = #[.pointer (some ⟨b, 0, none⟩)] := by
  obtain ⟨h1, h2⟩ := h
  have := h2 0 (by simp)
  generalize hv : xs.getD 0 undef = v at this
  cases this with
  | ptr _ _ _ _ _ b hb => exact ⟨b, hb, arr_one h1 (by rw [hv]; simp)⟩
theorem callk_used {H : Heap} {U : List Nat} {k kp : AV → Heap → List Nat → Prop} {id gen : Nat} {o : AO} (ho : H id = some o) (hg : o.gen = gen) (hs : o.sz = 2) (hn : o.n = 1) (h0 : o.f 0 0 = .ptr id gen 2 0 0) (hk : k unitV H U) :
    CallK Tryd.prog 38 [.ptr id gen 2 0 0] H U k kp := by
  subst hg
  intro C φ M w xs henv hm ha
  refine ⟨by kernel_rfl, ?_⟩
  obtain ⟨b, hb, rfl⟩ := ptr_arg ha
  obtain ⟨b', arr, fz, g1, g2, g3, g4, g5, g6, g7⟩ := (hm.heap.own id o ho).resolve_left (fun h => by omega)
  rw [hb] at g1; obtain rfl := Option.some.inj g1
  have hr := g7 0 0 (by omega) (by omega)
  rw [h0] at hr
  have hc : w.cell? ⟨b, 0, none⟩ = some (.pointer (some ⟨b, 0, none⟩)) := by
    have hlt : 0 < arr.size := by rw [hn, hs] at g4; omega
    have e : w.cell? ⟨b, 0, none⟩ = some (arr.getD 0 undef) := by simp [World.cell?, g2, hlt]
    rw [e]
    simp only [Nat.zero_mul, Nat.add_zero] at hr
    generalize arr.getD 0 undef = v at hr
    cases hr with
    | ptr _ _ _ _ _ b2 hb2 => rw [hb] at hb2; obtain rfl := Option.some.inj hb2; simp
  refine (copy_used b w hc).mono fun e w' hq => ?_
  obtain ⟨rfl, rfl⟩ := hq
  exact ⟨φ, M, H, U, fun _ _ _ h => h, fun _ h => h, fun _ _ => rfl, fun _ => Nat.le_refl _, hm, unitV, ra_unit, hk⟩
def selfF (f : Nat → Nat → AV) (id gen : Nat) : Nat → Nat → AV := setCells f 0 0 1 fun _ => .ptr id gen 2 0 0
theorem callk_fresh {H : Heap} {U : List Nat} {k kp : AV → Heap → List Nat → Prop} {id gen : Nat} {o : AO} (ho : H id = some o) (hg : o.gen = gen) (hE : o.E = 60) (hs : o.sz = 2) (hn : o.n = 1) (h0 : o.f 0 0 = .pv .nilP) (hk : k unitV (updF H id { o with f := selfF o.f id gen }) U) :
    CallK Tryd.prog 38 [.ptr id gen 2 0 0] H U k kp := by
  subst hg
  intro C φ M w xs henv hm ha
  refine ⟨by kernel_rfl, ?_⟩
  obtain ⟨b, hb, rfl⟩ := ptr_arg ha
  obtain ⟨b', arr, fz, g1, g2, g3, g4, g5, g6, g7⟩ := (hm.heap.own id o ho).resolve_left (fun h => by omega)
  rw [hb] at g1; obtain rfl := Option.some.inj g1
  have hlt : 2 ≤ arr.size := by rw [hn, hs] at g4; omega
  have hr := g7 0 0 (by omega) (by omega)
  rw [h0] at hr
  have hc : w.cell? ⟨b, 0, none⟩ = some (.pointer none) := by
    have e : w.cell? ⟨b, 0, none⟩ = some (arr.getD 0 undef) := by simp [World.cell?, g2, show 0 < arr.size by omega]
    rw [e]
    simp only [Nat.zero_mul, Nat.add_zero] at hr
    generalize arr.getD 0 undef = v at hr
    cases hr with
    | pv _ _ h => cases h; rfl
  have hsh : w.shape? b = some (60, arr.size) := by simp [World.shape?, g2, hE]
  have hfz : w.frozen? ⟨b, 0, none⟩ = false := by
    have := g3 0 (by omega)
    obtain ⟨lo, hi⟩ := fz
    simp only [World.frozen?, g2]
    rw [← Bool.not_eq_true]
    simpa using this
  refine (copy_fresh b arr.size w hc hlt hsh hfz).mono fun e w' hq => ?_
  obtain ⟨rfl, rfl⟩ := hq
  have hput := setCell_put (o := 0) g2 (.pointer (some ⟨b, 0, none⟩))
  have harr : (arr.setIfInBounds 0 (.pointer (some ⟨b, 0, none⟩))).size = arr.size := by simp
  have hM : ¬ M b := g5
  have hg0 : (arr.setIfInBounds 0 (.pointer (some ⟨b, 0, none⟩))).getD 0 undef = .pointer (some ⟨b, 0, none⟩) := by simp [Array.getD_eq_getD_getElem?, show 0 < arr.size by omega]
  have hg1 : (arr.setIfInBounds 0 (.pointer (some ⟨b, 0, none⟩))).getD 1 undef = arr.getD 1 undef := by simp [Array.getD_eq_getD_getElem?, Array.getElem?_setIfInBounds]
  have hold := hm.upd (o' := { o with f := selfF o.f id o.gen }) ho hb g2 harr rfl (.inl rfl) ⟨by rw [harr]; exact g4, fun i j hi hj => by
      have hi0 : i = 0 := by have : i < o.n := hi; omega
      subst hi0
      have hj2 : j < 2 := by have : j < o.sz := hj; omega
      match j, hj2 with
      | 0, _ => simp only [Nat.zero_mul, Nat.zero_add]; rw [hg0]; rfl
      | 1, _ => simp only [Nat.zero_mul, Nat.zero_add]; rw [hg1]; have := g6 0 1 (by omega) (by omega); simpa using this, fun i j hi hj => by
      have hi0 : i = 0 := by have : i < o.n := hi; omega
      subst hi0
      have hj2 : j < 2 := by have : j < o.sz := hj; omega
      match j, hj2 with
      | 0, _ => simp only [Nat.zero_mul, Nat.zero_add]; rw [hg0]; exact .ptr id o.gen 2 0 0 b hb
      | 1, _ => simp only [Nat.zero_mul, Nat.zero_add]; rw [hg1]; have := g7 0 1 (by omega) (by omega); rw [Nat.zero_mul, Nat.zero_add] at this; exact this⟩
  rw [hput]
  refine ⟨_, M, _, U, fun i g c h => ?_, fun _ h => h, fun c hc => ?_, fun c => ?_, hold, unitV, ra_unit, hk⟩
  · unfold nameIt
    split
    · rename_i he; rw [he.1, he.2] at h; rw [← h]; exact hb.symm ▸ rfl
    · exact h
  · rw [putBlk_get g2, if_neg (fun (h : c = b) => hM (h ▸ hc))]
  · rw [bsize_put g2 harr c]; exact Nat.le_refl _
theorem callk_bstring {H : Heap} {U : List Nat} {k kp : AV → Heap → List Nat → Prop} {id gb kb gk n : Nat} {o ob : AO} {l : List UInt8} (ho : H id = some o) (hg : o.gen = gb) (hs : o.sz = 2) (hn : o.n = 1) (h1 : o.f 0 1 = .row kb gk 1 0 n)
    (hob : H kb = some ob) (hE : ob.E = 5) (hgk : ob.gen = gk) (hsb : ob.sz = 1) (hnb : n ≤ ob.n) (hl : l.length = n) (h0 : 0 < n) (h62 : n < 2 ^ 62) (hf : ∀ i, i < n → ob.f i 0 = .pv (.int .u8 (l.getD i 0).toNat))
    (hk : k (.pv (.str l)) (delH H kb) U) : CallK Tryd.prog 29 [.ptr id gb 2 0 0] H U k kp := by
  subst hg hgk hl
  intro C φ M w xs henv hm ha
  refine ⟨by kernel_rfl, ?_⟩
  obtain ⟨b, hb, rfl⟩ := ptr_arg ha
  obtain ⟨b', arr, fz, g1, g2, g3, g4, g5, g6, g7⟩ := (hm.heap.own id o ho).resolve_left (fun h => by omega)
  rw [hb] at g1; obtain rfl := Option.some.inj g1
  have hlt : 2 ≤ arr.size := by rw [hn, hs] at g4; omega
  have hr := g7 0 1 (by omega) (by omega)
  rw [h1, Nat.zero_mul, Nat.zero_add] at hr
  have hc1 : w.cell? ⟨b, 1, none⟩ = some (arr.getD 1 undef) := by simp [World.cell?, g2, show 1 < arr.size by omega]
  obtain ⟨q, c, hq, hqc, hqv⟩ : ∃ q c, φ kb ob.gen = some q ∧ l.length ≤ c ∧ arr.getD 1 undef = .slice (some ⟨q, 0, none⟩) l.length c := by
    generalize arr.getD 1 undef = v at hr
    generalize hlen : l.length = n at hr h0
    cases hr with
    | row _ _ _ _ _ q c e1 e2 e3 => exact ⟨q, c, e1, e2, by simp⟩
    | row0 => omega
  rw [hqv] at hc1
  obtain ⟨q', arq, fq, k1, k2, k3, k4, k5, k6, k7⟩ := (hm.heap.own kb ob hob).resolve_left (fun h => by omega)
  rw [hq] at k1; obtain rfl := Option.some.inj k1
  have hsq : w.shape? q = some (5, arq.size) := by simp [World.shape?, k2, hE]
  have hln : l.length ≤ arq.size := by rw [hsb] at k4; omega
  have hcell : ∀ j x, l[j]? = some x → w.cell? ((⟨q, 0, none⟩ : Addr).add j) = some (.int .u8 x.toNat) := by
    intro j x hx
    have hj : j < l.length := by
      rcases Nat.lt_or_ge j l.length with h | h
      · exact h
      · rw [List.getElem?_eq_none h] at hx; cases hx
    have hr2 := k7 j 0 (by omega) (by omega)
    rw [hf j hj, hsb, Nat.mul_one, Nat.add_zero] at hr2
    have hgd : l.getD j 0 = x := by rw [List.getD_eq_getElem?_getD, hx]; rfl
    rw [hgd] at hr2
    have ea : ((⟨q, 0, none⟩ : Addr).add j) = ⟨q, j, none⟩ := by
      unfold Addr.add
      by_cases h : j = 0
      · subst h; rfl
      · simp [h]
    have e : w.cell? ((⟨q, 0, none⟩ : Addr).add j) = some (arq.getD j undef) := by rw [ea]; simp [World.cell?, k2, show j < arq.size by omega]
    rw [e]
    generalize arq.getD j undef = v at hr2
    cases hr2 with
    | pv _ _ h => cases h; rfl
  refine (bstring b q c arq.size l w hc1 (by omega) (by intro e; rw [e] at h0; simp at h0) hsq hln (by omega) hcell).mono fun e w' hq' => ?_
  obtain ⟨rfl, rfl⟩ := hq'
  have hqM : ¬ M q := k5
  have hfree := hm.fresh kb ob q hob hq
  have hm1 : Mem C φ M (delH H kb) U w.drew := (hm.del kb).drawn (w.drawn + 1)
  have hm2 : Mem C φ M (delH H kb) U (w.drew.freeze ⟨q, 0, none⟩ l.length) := hm1.patch (size_freeze _ _ _) (fun b hb => heap_freeze _ _ _ _ hb) (fun b => by rw [bsize_freeze]; exact Nat.le_refl _) hfree hqM (fun id2 o2 h2 e => by
      obtain ⟨h3, h4⟩ := delH_get h2
      exact h4 (hm.heap.inj id2 kb o2 ob q h3 hob e hq)) (by unfold World.freeze; split <;> rfl) (by unfold World.freeze; split <;> rfl) (by unfold World.freeze; split <;> rfl)
  exact ⟨φ, M, _, U, fun _ _ _ h => h, fun _ h => h, fun c hc => heap_freeze w.drew _ _ _ (fun (h : c = q) => hqM (h ▸ hc)), fun c => by rw [bsize_freeze]; exact Nat.le_refl _, hm2, .pv (.str l), .pv _ _ (.str l), hk⟩
theorem callk_bstring0 {H : Heap} {U : List Nat} {k kp : AV → Heap → List Nat → Prop} {id gb : Nat} {o : AO} (ho : H id = some o) (hg : o.gen = gb) (hs : o.sz = 2) (hn : o.n = 1) (h1 : o.f 0 1 = .nilS) (hk : k (.pv (.str [])) H U) :
    CallK Tryd.prog 29 [.ptr id gb 2 0 0] H U k kp := by
  subst hg
  intro C φ M w xs henv hm ha
  refine ⟨by kernel_rfl, ?_⟩
  obtain ⟨b, hb, rfl⟩ := ptr_arg ha
  obtain ⟨b', arr, fz, g1, g2, g3, g4, g5, g6, g7⟩ := (hm.heap.own id o ho).resolve_left (fun h => by omega)
  rw [hb] at g1; obtain rfl := Option.some.inj g1
  have hlt : 2 ≤ arr.size := by rw [hn, hs] at g4; omega
  have hr := g7 0 1 (by omega) (by omega)
  rw [h1, Nat.zero_mul, Nat.zero_add] at hr
  have hc1 : w.cell? ⟨b, 1, none⟩ = some (arr.getD 1 undef) := by simp [World.cell?, g2, show 1 < arr.size by omega]
  have hv : arr.getD 1 undef = .slice none 0 0 := by
    generalize arr.getD 1 undef = v at hr
    cases hr with
    | nilS => rfl
  rw [hv] at hc1
  refine (bstring_nil b w hc1).mono fun e w' hq' => ?_
  obtain ⟨rfl, rfl⟩ := hq'
  exact ⟨φ, M, H, U, fun _ _ _ h => h, fun _ h => h, fun _ _ => rfl, fun _ => Nat.le_refl _, hm.drawn (w.drawn + 1), .pv (.str []), .pv _ _ (.str []), hk⟩
end Go.Proofs.YtolgdbekdkldjaaDoor

namespace Go.Proofs.YtolgdbekdkldjaaDoor
open Go Go.AM
attribute [local irreducible] AWP CallK PureCall SubS HeapCall
def b0 : BankR := ⟨0, []⟩
def BankR.p (b : BankR) (j : Nat) : PV :=
  match j with
  | 0 => .int .i64 b.num
  | _ => wordsP b.ws
def banksP (l : List BankR) : PV := sqA 33 2 BankR.p b0 l
def imgF : List BankR → Int → List Line → List Line × Int
  | [], _, acc => (acc, 0)
  | b :: bs, last, acc => if (bankL b).2 ≠ 0 then ([], (bankL b).2) else if b.num ≤ last then ([], 8) else imgF bs b.num (acc ++ (bankL b).1)
def imgL (l : List BankR) : List Line × Int := imgF l (-1) []
theorem bank_len (b : BankR) : (bankL b).1.length ≤ 1025 := by
  unfold bankL
  split
  · simp
  · rename_i h
    obtain ⟨h1, h2, h3⟩ := check_ok (by simpa using h)
    have := bl_len b.ws false
    simp only [List.length_cons]; omega
theorem bank_ok {b : BankR} (h : (bankL b).2 = 0) : checkB b = 0 := by
  unfold bankL at h
  split at h
  · exact h
  · rename_i h2; simpa using h2
set_option maxHeartbeats 1000000 in
theorem f14 (l : List BankR) (hl : l.length ≤ 40) (hB : ∀ b ∈ l, BankB b) : PureCall Tryd.prog 14 [.pv (banksP l)] (bankT (imgL l)) := by
  refine PureCall.run tab_ok mixed (by kernel_rfl) Tryd.func14 rfl rfl rfl ?_
  conv => whnf
  repeat (first | ((with_reducible first | apply ga | apply gb | apply gc | apply gd | apply ge | apply gf | apply gg | apply gh | apply gi | apply gj); conv => whnf) | (refine ⟨⟨rfl, rfl, nle rfl, nle rfl⟩, ?_⟩; conv => whnf) | fail)
  refine ex_loop tab_ok mixed (fun x : Nat × Int × List Line × Nat => (x.1 ≤ l.length ∧ x.2.2.1.length ≤ 1025 * x.1) ∧ imgL l = imgF (l.drop x.1) x.2.1 x.2.2.1) (fun x => mkSt 35 [(4, .row 1004 x.2.2.2 5 0 x.2.2.1.length), (5, i64 x.2.1), (10, .pv (banksP l)), (11, i64 l.length), (12, i64 x.1)] [(1004, rowA 27 5 Line.p lz x.2.2.2 x.2.2.1)]) (fun x => l.length - x.1) (0, -1, [], 0) ⟨⟨Nat.zero_le _, Nat.zero_le _⟩, rfl⟩ (SubS.mkN [] [] rfl rfl rfl ⟨⟨_, rfl, .void _ _ _⟩, ⟨_, rfl, .same⟩, ⟨_, rfl, .same⟩, ⟨_, rfl, .same⟩, ⟨_, rfl, .same⟩, trivial⟩ ⟨.inr ⟨rfl, rfl⟩, trivial⟩) ?_
  rintro ⟨i, last, L, g⟩ ⟨⟨hi, hLi⟩, hI⟩
  dsimp only at hi hLi hI ⊢
  conv => whnf
  repeat (first | ((with_reducible first | apply ga | apply gb | apply gc | apply gd | apply ge | apply gf | apply gg | apply gh | apply gi | apply gj); conv => whnf) | (refine ⟨⟨rfl, rfl, nle rfl, nle rfl⟩, ?_⟩; conv => whnf) | fail)
  refine ⟨fun hc => ?_, fun hc => ?_⟩ <;> replace hc := nm hc <;> (try rw [Int.toNat_zero] at hc) <;> (try rw [Int.toNat_one] at hc)
  · have hlt : i < l.length := by omega
    have hx : l.getD i b0 ∈ l := by rw [List.getD_eq_getElem?_getD, List.getElem?_eq_getElem hlt]; exact List.getElem_mem hlt
    have hBi := hB _ hx
    have hlen := bank_len (l.getD i b0)
    rw [drop_getD (d := b0) hlt, imgF] at hI
    conv => whnf
    repeat (first | ((with_reducible first | apply ga | apply gb | apply gc | apply gd | apply ge | apply gf | apply gg | apply gh | apply gi | apply gj); conv => whnf) | (refine ⟨⟨rfl, rfl, nle rfl, nle rfl⟩, ?_⟩; conv => whnf) | fail)
    refine ⟨⟨by omega, by omega, rfl⟩, ?_⟩
    conv => whnf
    repeat (first | ((with_reducible first | apply ga | apply gb | apply gc | apply gd | apply ge | apply gf | apply gg | apply gh | apply gi | apply gj); conv => whnf) | (refine ⟨⟨rfl, rfl, nle rfl, nle rfl⟩, ?_⟩; conv => whnf) | fail)
    refine ⟨⟨by decide⟩, ?_⟩
    conv => whnf
    repeat (first | ((with_reducible first | apply ga | apply gb | apply gc | apply gd | apply ge | apply gf | apply gg | apply gh | apply gi | apply gj); conv => whnf) | (refine ⟨⟨rfl, rfl, nle rfl, nle rfl⟩, ?_⟩; conv => whnf) | fail)
    refine CallK.drop [] (f11 (l.getD i b0) hBi) ⟨agg2 .same .same, trivial⟩ ?_
    conv => whnf
    repeat (first | ((with_reducible first | apply ga | apply gb | apply gc | apply gd | apply ge | apply gf | apply gg | apply gh | apply gi | apply gj); conv => whnf) | (refine ⟨⟨rfl, rfl, nle rfl, nle rfl⟩, ?_⟩; conv => whnf) | fail)
    refine ⟨fun he => ?_, fun he => ?_⟩ <;> replace he := nm he <;> (try rw [Int.toNat_zero] at he) <;> (try rw [Int.toNat_one] at he)
    · rw [if_pos he] at hI
      conv => whnf
      repeat (first | ((with_reducible first | apply ga | apply gb | apply gc | apply gd | apply ge | apply gf | apply gg | apply gh | apply gi | apply gj); conv => whnf) | (refine ⟨⟨rfl, rfl, nle rfl, nle rfl⟩, ?_⟩; conv => whnf) | fail)
      rw [hI]
      exact done_tup [.pv (linesP []), i64 (bankL (l.getD i b0)).2] [] rfl ⟨VLe.nilA, .same, trivial⟩
    · rw [if_neg (by simpa using he)] at hI
      conv => whnf
      repeat (first | ((with_reducible first | apply ga | apply gb | apply gc | apply gd | apply ge | apply gf | apply gg | apply gh | apply gi | apply gj); conv => whnf) | (refine ⟨⟨rfl, rfl, nle rfl, nle rfl⟩, ?_⟩; conv => whnf) | fail)
      refine ⟨fun hd => ?_, fun hd => ?_⟩ <;> replace hd := nm hd <;> (try rw [Int.toNat_zero] at hd) <;> (try rw [Int.toNat_one] at hd)
      · have hd' : (l.getD i b0).num ≤ last := hd
        rw [if_pos hd'] at hI
        conv => whnf
        repeat (first | ((with_reducible first | apply ga | apply gb | apply gc | apply gd | apply ge | apply gf | apply gg | apply gh | apply gi | apply gj); conv => whnf) | (refine ⟨⟨rfl, rfl, nle rfl, nle rfl⟩, ?_⟩; conv => whnf) | fail)
        rw [hI]
        exact done_tup [.pv (linesP []), i64 8] [] rfl ⟨VLe.nilA, .same, trivial⟩
      · rw [if_neg (by have : last < (l.getD i b0).num := hd; omega)] at hI
        conv => whnf
        repeat (first | ((with_reducible first | apply ga | apply gb | apply gc | apply gd | apply ge | apply gf | apply gg | apply gh | apply gi | apply gj); conv => whnf) | (refine ⟨⟨rfl, rfl, nle rfl, nle rfl⟩, ?_⟩; conv => whnf) | fail)
        refine ⟨⟨rfl, rfl, rfl, rfl, rfl, rfl, rfl, show (L.length + (bankL (l.getD i b0)).1.length) * 64 ≤ 140737488355328 by omega⟩, ?_⟩
        conv => whnf
        repeat (first | ((with_reducible first | apply ga | apply gb | apply gc | apply gd | apply ge | apply gf | apply gg | apply gh | apply gi | apply gj); conv => whnf) | (refine ⟨⟨rfl, rfl, nle rfl, nle rfl⟩, ?_⟩; conv => whnf) | fail)
        refine ⟨⟨by unfold inI64; omega⟩, ?_⟩
        conv => whnf
        repeat (first | ((with_reducible first | apply ga | apply gb | apply gc | apply gd | apply ge | apply gf | apply gg | apply gh | apply gi | apply gj); conv => whnf) | (refine ⟨⟨rfl, rfl, nle rfl, nle rfl⟩, ?_⟩; conv => whnf) | fail)
        exact ⟨(i + 1, (l.getD i b0).num, L ++ (bankL (l.getD i b0)).1, g + 1), ⟨⟨hlt, by dsimp only; rw [List.length_append]; omega⟩, hI⟩, SubS.mkN [] [(1004, 1004)] rfl rfl rfl ⟨⟨_, rfl, .row _ _ _ _ _ _ _ _ _ rfl rfl rfl (by simp)⟩, ⟨_, rfl, .same⟩, ⟨_, rfl, .same⟩, ⟨_, rfl, .same⟩, ⟨_, rfl, .same⟩, trivial⟩ ⟨.inl ⟨_, _, rfl, rfl, rfl, OLe.catA rfl rfl rfl rfl rfl fun _ _ _ _ => .same⟩, trivial⟩, by dsimp only; omega⟩
  · rw [List.drop_eq_nil_of_le (by omega), imgF] at hI
    conv => whnf
    repeat (first | ((with_reducible first | apply ga | apply gb | apply gc | apply gd | apply ge | apply gf | apply gg | apply gh | apply gi | apply gj); conv => whnf) | (refine ⟨⟨rfl, rfl, nle rfl, nle rfl⟩, ?_⟩; conv => whnf) | fail)
    rw [hI]
    exact done_tup [.pv (linesP L), i64 0] [1004] rfl ⟨VLe.frzA rfl rfl rfl, .same, trivial⟩
def lastN (l : List BankR) (i : Nat) : Int := if i = 0 then -1 else (l.getD (i - 1) b0).num
set_option maxHeartbeats 1000000 in
theorem f15 (l : List BankR) (hl : l.length ≤ 40) (hB : ∀ b ∈ l, BankB b) : PureCall Tryd.prog 15 [.pv (banksP l)] (bankT (imgL l)) := by
  refine PureCall.run tab_ok mixed (by kernel_rfl) Tryd.func15 rfl rfl rfl ?_
  conv => whnf
  repeat (first | ((with_reducible first | apply ga | apply gb | apply gc | apply gd | apply ge | apply gf | apply gg | apply gh | apply gi | apply gj); conv => whnf) | (refine ⟨⟨rfl, rfl, nle rfl, nle rfl⟩, ?_⟩; conv => whnf) | fail)
  refine ex_loop tab_ok mixed (fun x : Nat × List Line × Nat => (x.1 ≤ l.length ∧ x.2.1.length ≤ 1025 * x.1) ∧ imgL l = imgF (l.drop x.1) (lastN l x.1) x.2.1) (fun x => mkSt 45 [(0, .pv (banksP l)), (4, .row 1004 x.2.2 5 0 x.2.1.length), (5, i64 x.1)] [(1004, rowA 27 5 Line.p lz x.2.2 x.2.1)]) (fun x => l.length - x.1) (0, [], 0) ⟨⟨Nat.zero_le _, Nat.zero_le _⟩, rfl⟩ (SubS.mkN [] [] rfl rfl rfl ⟨⟨_, rfl, .same⟩, ⟨_, rfl, .void _ _ _⟩, ⟨_, rfl, .same⟩, trivial⟩ ⟨.inr ⟨rfl, rfl⟩, trivial⟩) ?_
  rintro ⟨i, L, g⟩ ⟨⟨hi, hLi⟩, hI⟩
  dsimp only at hi hLi hI ⊢
  conv => whnf
  repeat (first | ((with_reducible first | apply ga | apply gb | apply gc | apply gd | apply ge | apply gf | apply gg | apply gh | apply gi | apply gj); conv => whnf) | (refine ⟨⟨rfl, rfl, nle rfl, nle rfl⟩, ?_⟩; conv => whnf) | fail)
  refine ⟨fun hc => ?_, fun hc => ?_⟩ <;> replace hc := nm hc <;> (try rw [Int.toNat_zero] at hc) <;> (try rw [Int.toNat_one] at hc)
  · have hlt : i < l.length := by omega
    have hx : l.getD i b0 ∈ l := by rw [List.getD_eq_getElem?_getD, List.getElem?_eq_getElem hlt]; exact List.getElem_mem hlt
    have hBi := hB _ hx
    have hlen := bank_len (l.getD i b0)
    have hnext : lastN l (i + 1) = (l.getD i b0).num := by unfold lastN; rw [if_neg (by omega)]; rfl
    rw [drop_getD (d := b0) hlt, imgF, ← hnext] at hI
    conv => whnf
    repeat (first | ((with_reducible first | apply ga | apply gb | apply gc | apply gd | apply ge | apply gf | apply gg | apply gh | apply gi | apply gj); conv => whnf) | (refine ⟨⟨rfl, rfl, nle rfl, nle rfl⟩, ?_⟩; conv => whnf) | fail)
    refine ⟨⟨by omega, by omega, rfl⟩, ?_⟩
    conv => whnf
    repeat (first | ((with_reducible first | apply ga | apply gb | apply gc | apply gd | apply ge | apply gf | apply gg | apply gh | apply gi | apply gj); conv => whnf) | (refine ⟨⟨rfl, rfl, nle rfl, nle rfl⟩, ?_⟩; conv => whnf) | fail)
    refine ⟨⟨by decide⟩, ?_⟩
    conv => whnf
    repeat (first | ((with_reducible first | apply ga | apply gb | apply gc | apply gd | apply ge | apply gf | apply gg | apply gh | apply gi | apply gj); conv => whnf) | (refine ⟨⟨rfl, rfl, nle rfl, nle rfl⟩, ?_⟩; conv => whnf) | fail)
    refine CallK.drop [] (f12 (l.getD i b0) hBi) ⟨agg2 .same .same, trivial⟩ ?_
    conv => whnf
    repeat (first | ((with_reducible first | apply ga | apply gb | apply gc | apply gd | apply ge | apply gf | apply gg | apply gh | apply gi | apply gj); conv => whnf) | (refine ⟨⟨rfl, rfl, nle rfl, nle rfl⟩, ?_⟩; conv => whnf) | fail)
    refine ⟨fun he => ?_, fun he => ?_⟩ <;> replace he := nm he <;> (try rw [Int.toNat_zero] at he) <;> (try rw [Int.toNat_one] at he)
    · rw [if_pos he] at hI
      conv => whnf
      repeat (first | ((with_reducible first | apply ga | apply gb | apply gc | apply gd | apply ge | apply gf | apply gg | apply gh | apply gi | apply gj); conv => whnf) | (refine ⟨⟨rfl, rfl, nle rfl, nle rfl⟩, ?_⟩; conv => whnf) | fail)
      rw [hI]
      exact done_tup [.pv (linesP []), i64 (bankL (l.getD i b0)).2] [] rfl ⟨VLe.nilA, .same, trivial⟩
    · rw [if_neg (by simpa using he), hnext] at hI
      obtain ⟨k1, k2, k3⟩ := check_ok (bank_ok he)
      conv => whnf
      repeat (first | ((with_reducible first | apply ga | apply gb | apply gc | apply gd | apply ge | apply gf | apply gg | apply gh | apply gi | apply gj); conv => whnf) | (refine ⟨⟨rfl, rfl, nle rfl, nle rfl⟩, ?_⟩; conv => whnf) | fail)
      refine ⟨fun h0 => ?_, fun h0 => ?_⟩ <;> replace h0 := nm h0 <;> (try rw [Int.toNat_zero] at h0) <;> (try rw [Int.toNat_one] at h0)
      · conv => whnf
        repeat (first | ((with_reducible first | apply ga | apply gb | apply gc | apply gd | apply ge | apply gf | apply gg | apply gh | apply gi | apply gj); conv => whnf) | (refine ⟨⟨rfl, rfl, nle rfl, nle rfl⟩, ?_⟩; conv => whnf) | fail)
        refine ⟨⟨by omega, by omega, rfl⟩, ?_⟩
        conv => whnf
        repeat (first | ((with_reducible first | apply ga | apply gb | apply gc | apply gd | apply ge | apply gf | apply gg | apply gh | apply gi | apply gj); conv => whnf) | (refine ⟨⟨rfl, rfl, nle rfl, nle rfl⟩, ?_⟩; conv => whnf) | fail)
        refine ⟨⟨by decide⟩, ?_⟩
        conv => whnf
        repeat (first | ((with_reducible first | apply ga | apply gb | apply gc | apply gd | apply ge | apply gf | apply gg | apply gh | apply gi | apply gj); conv => whnf) | (refine ⟨⟨rfl, rfl, nle rfl, nle rfl⟩, ?_⟩; conv => whnf) | fail)
        refine ⟨⟨by decide⟩, ?_⟩
        conv => whnf
        repeat (first | ((with_reducible first | apply ga | apply gb | apply gc | apply gd | apply ge | apply gf | apply gg | apply gh | apply gi | apply gj); conv => whnf) | (refine ⟨⟨rfl, rfl, nle rfl, nle rfl⟩, ?_⟩; conv => whnf) | fail)
        refine ⟨⟨by unfold inI64; omega⟩, ?_⟩
        conv => whnf
        repeat (first | ((with_reducible first | apply ga | apply gb | apply gc | apply gd | apply ge | apply gf | apply gg | apply gh | apply gi | apply gj); conv => whnf) | (refine ⟨⟨rfl, rfl, nle rfl, nle rfl⟩, ?_⟩; conv => whnf) | fail)
        refine ⟨⟨by omega, by omega, rfl⟩, ?_⟩
        conv => whnf
        repeat (first | ((with_reducible first | apply ga | apply gb | apply gc | apply gd | apply ge | apply gf | apply gg | apply gh | apply gi | apply gj); conv => whnf) | (refine ⟨⟨rfl, rfl, nle rfl, nle rfl⟩, ?_⟩; conv => whnf) | fail)
        refine ⟨⟨by decide⟩, ?_⟩
        conv => whnf
        repeat (first | ((with_reducible first | apply ga | apply gb | apply gc | apply gd | apply ge | apply gf | apply gg | apply gh | apply gi | apply gj); conv => whnf) | (refine ⟨⟨rfl, rfl, nle rfl, nle rfl⟩, ?_⟩; conv => whnf) | fail)
        refine ⟨⟨by decide⟩, ?_⟩
        conv => whnf
        repeat (first | ((with_reducible first | apply ga | apply gb | apply gc | apply gd | apply ge | apply gf | apply gg | apply gh | apply gi | apply gj); conv => whnf) | (refine ⟨⟨rfl, rfl, nle rfl, nle rfl⟩, ?_⟩; conv => whnf) | fail)
        refine ⟨rfl, ?_⟩
        conv => whnf
        repeat (first | ((with_reducible first | apply ga | apply gb | apply gc | apply gd | apply ge | apply gf | apply gg | apply gh | apply gi | apply gj); conv => whnf) | (refine ⟨⟨rfl, rfl, nle rfl, nle rfl⟩, ?_⟩; conv => whnf) | fail)
        have e1 : ((i : Int) - 1).toNat = i - 1 := by omega
        have hln : lastN l i = (l.getD (i - 1) b0).num := by unfold lastN; rw [if_neg (by omega)]
        rw [hln, ← hnext] at hI
        refine ⟨fun hd => ?_, fun hd => ?_⟩ <;> replace hd := nm hd <;> (try rw [Int.toNat_zero] at hd) <;> (try rw [Int.toNat_one] at hd)
        · have hd' : lastN l (i + 1) ≤ (l.getD (i - 1) b0).num := by
            have : (l.getD i b0).num ≤ (l.getD ((i : Int) - 1).toNat b0).num := hd
            rw [e1] at this; omega
          rw [if_pos hd'] at hI
          conv => whnf
          repeat (first | ((with_reducible first | apply ga | apply gb | apply gc | apply gd | apply ge | apply gf | apply gg | apply gh | apply gi | apply gj); conv => whnf) | (refine ⟨⟨rfl, rfl, nle rfl, nle rfl⟩, ?_⟩; conv => whnf) | fail)
          rw [hI]
          exact done_tup [.pv (linesP []), i64 8] [] rfl ⟨VLe.nilA, .same, trivial⟩
        · have hd' : ¬ lastN l (i + 1) ≤ (l.getD (i - 1) b0).num := by
            have : (l.getD ((i : Int) - 1).toNat b0).num < (l.getD i b0).num := hd
            rw [e1] at this; omega
          rw [if_neg hd'] at hI
          conv => whnf
          repeat (first | ((with_reducible first | apply ga | apply gb | apply gc | apply gd | apply ge | apply gf | apply gg | apply gh | apply gi | apply gj); conv => whnf) | (refine ⟨⟨rfl, rfl, nle rfl, nle rfl⟩, ?_⟩; conv => whnf) | fail)
          refine ⟨⟨rfl, rfl, rfl, rfl, rfl, rfl, rfl, show (L.length + (bankL (l.getD i b0)).1.length) * 64 ≤ 140737488355328 by omega⟩, ?_⟩
          conv => whnf
          repeat (first | ((with_reducible first | apply ga | apply gb | apply gc | apply gd | apply ge | apply gf | apply gg | apply gh | apply gi | apply gj); conv => whnf) | (refine ⟨⟨rfl, rfl, nle rfl, nle rfl⟩, ?_⟩; conv => whnf) | fail)
          refine ⟨⟨by unfold inI64; omega⟩, ?_⟩
          conv => whnf
          repeat (first | ((with_reducible first | apply ga | apply gb | apply gc | apply gd | apply ge | apply gf | apply gg | apply gh | apply gi | apply gj); conv => whnf) | (refine ⟨⟨rfl, rfl, nle rfl, nle rfl⟩, ?_⟩; conv => whnf) | fail)
          exact ⟨(i + 1, L ++ (bankL (l.getD i b0)).1, g + 1), ⟨⟨hlt, by dsimp only; rw [List.length_append]; omega⟩, hI⟩, SubS.mkN [] [(1004, 1004)] rfl rfl rfl ⟨⟨_, rfl, .same⟩, ⟨_, rfl, .row _ _ _ _ _ _ _ _ _ rfl rfl rfl (by simp)⟩, ⟨_, rfl, .same⟩, trivial⟩ ⟨.inl ⟨_, _, rfl, rfl, rfl, OLe.catA rfl rfl rfl rfl rfl fun _ _ _ _ => .same⟩, trivial⟩, by dsimp only; omega⟩
      · obtain rfl : i = 0 := by omega
        have hd' : ¬ (l.getD 0 b0).num ≤ lastN l 0 := by unfold lastN; rw [if_pos rfl]; omega
        rw [if_neg hd', ← hnext] at hI
        conv => whnf
        repeat (first | ((with_reducible first | apply ga | apply gb | apply gc | apply gd | apply ge | apply gf | apply gg | apply gh | apply gi | apply gj); conv => whnf) | (refine ⟨⟨rfl, rfl, nle rfl, nle rfl⟩, ?_⟩; conv => whnf) | fail)
        refine ⟨rfl, ?_⟩
        conv => whnf
        repeat (first | ((with_reducible first | apply ga | apply gb | apply gc | apply gd | apply ge | apply gf | apply gg | apply gh | apply gi | apply gj); conv => whnf) | (refine ⟨⟨rfl, rfl, nle rfl, nle rfl⟩, ?_⟩; conv => whnf) | fail)
        refine ⟨⟨rfl, rfl, rfl, rfl, rfl, rfl, rfl, show (L.length + (bankL (l.getD 0 b0)).1.length) * 64 ≤ 140737488355328 by omega⟩, ?_⟩
        conv => whnf
        repeat (first | ((with_reducible first | apply ga | apply gb | apply gc | apply gd | apply ge | apply gf | apply gg | apply gh | apply gi | apply gj); conv => whnf) | (refine ⟨⟨rfl, rfl, nle rfl, nle rfl⟩, ?_⟩; conv => whnf) | fail)
        refine ⟨⟨by unfold inI64; omega⟩, ?_⟩
        conv => whnf
        repeat (first | ((with_reducible first | apply ga | apply gb | apply gc | apply gd | apply ge | apply gf | apply gg | apply gh | apply gi | apply gj); conv => whnf) | (refine ⟨⟨rfl, rfl, nle rfl, nle rfl⟩, ?_⟩; conv => whnf) | fail)
        exact ⟨(0 + 1, L ++ (bankL (l.getD 0 b0)).1, g + 1), ⟨⟨hlt, by dsimp only; rw [List.length_append]; omega⟩, hI⟩, SubS.mkN [] [(1004, 1004)] rfl rfl rfl ⟨⟨_, rfl, .same⟩, ⟨_, rfl, .row _ _ _ _ _ _ _ _ _ rfl rfl rfl (by simp)⟩, ⟨_, rfl, .same⟩, trivial⟩ ⟨.inl ⟨_, _, rfl, rfl, rfl, OLe.catA rfl rfl rfl rfl rfl fun _ _ _ _ => .same⟩, trivial⟩, by dsimp only; omega⟩
  · rw [List.drop_eq_nil_of_le (by omega), imgF] at hI
    conv => whnf
    repeat (first | ((with_reducible first | apply ga | apply gb | apply gc | apply gd | apply ge | apply gf | apply gg | apply gh | apply gi | apply gj); conv => whnf) | (refine ⟨⟨rfl, rfl, nle rfl, nle rfl⟩, ?_⟩; conv => whnf) | fail)
    rw [hI]
    exact done_tup [.pv (linesP L), i64 0] [1004] rfl ⟨VLe.frzA rfl rfl rfl, .same, trivial⟩
end Go.Proofs.YtolgdbekdkldjaaDoor

namespace Go.Proofs.YtolgdbekdkldjaaDoor
open Go Go.AM
attribute [local irreducible] AWP CallK PureCall SubS HeapCall
theorem nm_ok : ∀ c : Nat, 1 ≤ c → c ≤ 39 → isName (ent c).nm = true := by
  have h : ∀ c : Nat, c < 40 → 1 ≤ c → isName (ent c).nm = true := by decide +kernel
  intro c h1 h2
  exact h c (by omega) h1
theorem one_may (w : Nat) (x : Bool) (hw : w < 32768) : mayB (oneL w x) = true := by
  obtain ⟨_, r1, r2, r3⟩ := ref_dec (w := w) x hw
  have hn := nm_ok _ r1 r2
  have hb := ent_bd (decN w x)
  rw [fits_iff] at r3
  have hm := mst_le (ent (decN w x)).k
  unfold oneL
  refine may_of (.inl rfl) (.inr hn) (fun h => ?_) ?_
  · dsimp only at h
    rw [h] at hn; exact absurd hn (by decide)
  · dsimp only
    split
    · rfl
    · unfold mayA
      simp only [if_neg (show ¬ (1 : Int) = 0 by decide), if_true]
      rw [Bool.and_eq_true]
      refine ⟨rfl, ?_⟩
      unfold within
      rw [Bool.and_eq_true, decide_eq_true_eq, decide_eq_true_eq]
      omega
theorem bl_may : ∀ (ws : List Nat) (m : Bool), ∀ l ∈ bl m ws, mayB l = true
  | [], m, l, h => by cases m <;> simp [bl] at h
  | [x], m, l, h => by
    rw [bl] at h
    obtain rfl := List.mem_singleton.mp h
    exact one_may _ _ (by omega)
  | x :: y :: r, m, l, h => by
    rw [bl] at h
    split at h
    · rcases List.mem_cons.mp h with rfl | h
      · exact one_may _ _ (by omega)
      · exact bl_may r _ l h
    · rcases List.mem_cons.mp h with rfl | h
      · exact one_may _ _ (by omega)
      · exact bl_may (y :: r) _ l h
theorem loc_may {n : Int} (h : 0 ≤ n ∧ n ≤ 65535) : mayB (locL n) = true := by
  refine may_of (.inl rfl) (.inr (show isName LOCs = true by decide)) (fun h => by cases h) ?_
  unfold mayA locL
  simp only [if_neg (show ¬ (1 : Int) = 0 by decide), if_true]
  rw [Bool.and_eq_true]
  refine ⟨rfl, ?_⟩
  unfold within
  rw [Bool.and_eq_true, decide_eq_true_eq, decide_eq_true_eq]
  omega
theorem bank_may (b : BankR) : ∀ l ∈ (bankL b).1, mayB l = true := by
  intro l hl
  unfold bankL at hl
  split at hl
  · cases hl
  · rename_i h
    obtain ⟨h1, h2, h3⟩ := check_ok (by simpa using h)
    rcases List.mem_cons.mp hl with rfl | hl
    · exact loc_may (by omega)
    · exact bl_may _ _ l hl
theorem img_may : ∀ (bs : List BankR) (last : Int) (acc : List Line), (∀ l ∈ acc, mayB l = true) → ∀ l ∈ (imgF bs last acc).1, mayB l = true
  | [], _, acc, h => h
  | b :: bs, last, acc, h => by
    rw [imgF]
    split
    · intro l hl; cases hl
    · split
      · intro l hl; cases hl
      · exact img_may bs _ _ fun l hl => by
          rcases List.mem_append.mp hl with hl | hl
          · exact h l hl
          · exact bank_may b l hl
theorem img_len : ∀ (bs : List BankR) (last : Int) (acc : List Line), (imgF bs last acc).1.length ≤ acc.length + 1025 * bs.length
  | [], _, acc => by simp [imgF]
  | b :: bs, last, acc => by
    rw [imgF]
    split
    · simp
    · split
      · simp
      · have := img_len bs b.num (acc ++ (bankL b).1)
        have := bank_len b
        simp only [List.length_append, List.length_cons] at *
        omega
def srcL (l : List BankR) : List UInt8 × Int := if (imgL l).2 ≠ 0 then ([], (imgL l).2) else if 65536 < ((srcM (imgL l).1).length : Int) then ([], 4) else (srcM (imgL l).1, 0)
theorem srcM_snoc (M : List Line) (l : Line) : srcM (M ++ [l]) = srcM M ++ txt l ++ [10] := by unfold srcM; rw [List.flatMap_append]; simp
theorem take_snoc {α : Type} {L : List α} {i : Nat} {d : α} (h : i < L.length) : L.take (i + 1) = L.take i ++ [L.getD i d] := by
  rw [List.take_add_one]; simp [h]
set_option maxHeartbeats 1000000 in
theorem f17 (l : List BankR) (hl : l.length ≤ 40) (hB : ∀ b ∈ l, BankB b) : PureCall Tryd.prog 17 [.pv (banksP l)] (prT (srcL l)) := by
  obtain ⟨X, hX⟩ : ∃ X, (imgL l).1 = X := ⟨_, rfl⟩
  have hXm : ∀ x ∈ X, mayB x = true := by rw [← hX]; exact img_may l _ _ (fun _ h => by cases h)
  have hXl : X.length ≤ 41000 := by have := img_len l (-1) []; rw [← hX]; unfold imgL; simp only [List.length_nil] at this; omega
  refine PureCall.run tab_ok mixed (by kernel_rfl) Tryd.func17 rfl rfl rfl ?_
  conv => whnf
  repeat (first | ((with_reducible first | apply ga | apply gb | apply gc | apply gd | apply ge | apply gf | apply gg | apply gh | apply gi | apply gj); conv => whnf) | (refine ⟨⟨rfl, rfl, nle rfl, nle rfl⟩, ?_⟩; conv => whnf) | fail)
  refine CallK.drop [] (f15 l hl hB) ⟨.same, trivial⟩ ?_
  conv => whnf
  repeat (first | ((with_reducible first | apply ga | apply gb | apply gc | apply gd | apply ge | apply gf | apply gg | apply gh | apply gi | apply gj); conv => whnf) | (refine ⟨⟨rfl, rfl, nle rfl, nle rfl⟩, ?_⟩; conv => whnf) | fail)
  refine ⟨fun he => ?_, fun he => ?_⟩ <;> replace he := nm he <;> (try rw [Int.toNat_zero] at he) <;> (try rw [Int.toNat_one] at he)
  · conv => whnf
    repeat (first | ((with_reducible first | apply ga | apply gb | apply gc | apply gd | apply ge | apply gf | apply gg | apply gh | apply gi | apply gj); conv => whnf) | (refine ⟨⟨rfl, rfl, nle rfl, nle rfl⟩, ?_⟩; conv => whnf) | fail)
    have e : srcL l = ([], (imgL l).2) := by unfold srcL; rw [if_pos he]
    rw [e]
    exact done_tup [st [], i64 (imgL l).2] [] rfl ⟨.same, .same, trivial⟩
  · have e : srcL l = if 65536 < ((srcM X).length : Int) then ([], 4) else (srcM X, 0) := by unfold srcL; rw [if_neg (by simpa using he), hX]
    rw [hX]
    conv => whnf
    repeat (first | ((with_reducible first | apply ga | apply gb | apply gc | apply gd | apply ge | apply gf | apply gg | apply gh | apply gi | apply gj); conv => whnf) | (refine ⟨⟨rfl, rfl, nle rfl, nle rfl⟩, ?_⟩; conv => whnf) | fail)
    refine ex_loop tab_ok mixed (fun x : Nat × List UInt8 × Nat => x.1 ≤ X.length ∧ x.2.1 = srcM (X.take x.1)) (fun x => mkSt 43 [(4, .pv (linesP X)), (6, .row 1006 x.2.2 1 0 x.2.1.length), (7, i64 x.1)] [(1006, bytesO x.2.2 x.2.1)]) (fun x => X.length - x.1) (0, [], 0) ⟨Nat.zero_le _, rfl⟩ (SubS.mkN [] [] rfl rfl rfl ⟨⟨_, rfl, .same⟩, ⟨_, rfl, .void _ _ _⟩, ⟨_, rfl, .same⟩, trivial⟩ ⟨.inr ⟨rfl, rfl⟩, trivial⟩) ?_
    rintro ⟨i, L, g⟩ ⟨hi, hL⟩
    dsimp only at hi hL ⊢
    have hLl : L.length ≤ 61 * X.length := by
      rw [hL]
      have := srcM_len (X.take i) (fun x hx => hXm x (List.mem_of_mem_take hx))
      have : (X.take i).length ≤ X.length := by simp; omega
      omega
    conv => whnf
    repeat (first | ((with_reducible first | apply ga | apply gb | apply gc | apply gd | apply ge | apply gf | apply gg | apply gh | apply gi | apply gj); conv => whnf) | (refine ⟨⟨rfl, rfl, nle rfl, nle rfl⟩, ?_⟩; conv => whnf) | fail)
    refine ⟨fun hc => ?_, fun hc => ?_⟩ <;> replace hc := nm hc <;> (try rw [Int.toNat_zero] at hc) <;> (try rw [Int.toNat_one] at hc)
    · have hlt : i < X.length := by omega
      have hx : X.getD i lz ∈ X := by rw [List.getD_eq_getElem?_getD, List.getElem?_eq_getElem hlt]; exact List.getElem_mem hlt
      have hm := hXm _ hx
      have hbd := may_bd hm
      obtain ⟨s1, s2, s3⟩ := scan_print hm
      have s2' : (txt (X.getD i lz)).length ≤ 60 := s2
      have c1 := tk24 (X.getD i lz) ⟨by omega, by omega, by omega, hbd.2.2.2.1⟩
      rw [show print (X.getD i lz) = (txt (X.getD i lz), 0) from print_ok hm] at c1
      conv => whnf
      repeat (first | ((with_reducible first | apply ga | apply gb | apply gc | apply gd | apply ge | apply gf | apply gg | apply gh | apply gi | apply gj); conv => whnf) | (refine ⟨⟨rfl, rfl, nle rfl, nle rfl⟩, ?_⟩; conv => whnf) | fail)
      refine ⟨⟨by omega, by omega, rfl⟩, ?_⟩
      conv => whnf
      repeat (first | ((with_reducible first | apply ga | apply gb | apply gc | apply gd | apply ge | apply gf | apply gg | apply gh | apply gi | apply gj); conv => whnf) | (refine ⟨⟨rfl, rfl, nle rfl, nle rfl⟩, ?_⟩; conv => whnf) | fail)
      refine ⟨⟨by decide⟩, ?_⟩
      conv => whnf
      repeat (first | ((with_reducible first | apply ga | apply gb | apply gc | apply gd | apply ge | apply gf | apply gg | apply gh | apply gi | apply gj); conv => whnf) | (refine ⟨⟨rfl, rfl, nle rfl, nle rfl⟩, ?_⟩; conv => whnf) | fail)
      refine CallK.flat [] c1 ⟨agg5 .same .same .same .same .same, trivial⟩ rfl ?_
      conv => whnf
      repeat (first | ((with_reducible first | apply ga | apply gb | apply gc | apply gd | apply ge | apply gf | apply gg | apply gh | apply gi | apply gj); conv => whnf) | (refine ⟨⟨rfl, rfl, nle rfl, nle rfl⟩, ?_⟩; conv => whnf) | fail)
      refine ⟨⟨rfl, rfl, rfl, rfl, rfl, rfl, rfl, show (L.length + (txt (X.getD i lz)).length) * 1 ≤ 140737488355328 by omega⟩, ?_⟩
      conv => whnf
      repeat (first | ((with_reducible first | apply ga | apply gb | apply gc | apply gd | apply ge | apply gf | apply gg | apply gh | apply gi | apply gj); conv => whnf) | (refine ⟨⟨rfl, rfl, nle rfl, nle rfl⟩, ?_⟩; conv => whnf) | fail)
      refine ⟨⟨⟨rfl, rfl, rfl, nle rfl⟩, rfl, rfl, rfl, rfl, rfl, rfl, show (L.length + (txt (X.getD i lz)).length + 1) * 1 ≤ 140737488355328 by omega⟩, ?_⟩
      conv => whnf
      repeat (first | ((with_reducible first | apply ga | apply gb | apply gc | apply gd | apply ge | apply gf | apply gg | apply gh | apply gi | apply gj); conv => whnf) | (refine ⟨⟨rfl, rfl, nle rfl, nle rfl⟩, ?_⟩; conv => whnf) | fail)
      refine ⟨⟨by unfold inI64; omega⟩, ?_⟩
      conv => whnf
      repeat (first | ((with_reducible first | apply ga | apply gb | apply gc | apply gd | apply ge | apply gf | apply gg | apply gh | apply gi | apply gj); conv => whnf) | (refine ⟨⟨rfl, rfl, nle rfl, nle rfl⟩, ?_⟩; conv => whnf) | fail)
      refine ⟨(i + 1, L ++ txt (X.getD i lz) ++ [10], g + 1 + 1), ⟨hlt, by dsimp only; rw [take_snoc (d := lz) hlt, srcM_snoc, hL]⟩, SubS.mkN [] [(1006, 1006)] rfl rfl rfl ⟨⟨_, rfl, .same⟩, ⟨_, rfl, .row _ _ _ _ _ _ _ _ _ rfl rfl rfl (by simp [Nat.add_assoc])⟩, ⟨_, rfl, .same⟩, trivial⟩ ⟨.inl ⟨_, _, rfl, rfl, rfl, CellsA.row ?_ rfl rfl (by simp [Nat.add_assoc])⟩, trivial⟩, by dsimp only; omega⟩
      dsimp only
      refine CellsA.cat (CellsA.cat (fun _ _ _ _ => .same) rfl (fun _ _ _ _ => .same)) (by rw [List.length_append]) (CellsA.one fun j hj => ?_)
      match j, hj with
      | 0, _ => exact .same
    · rw [List.take_of_length_le (by omega)] at hL
      conv => whnf
      repeat (first | ((with_reducible first | apply ga | apply gb | apply gc | apply gd | apply ge | apply gf | apply gg | apply gh | apply gi | apply gj); conv => whnf) | (refine ⟨⟨rfl, rfl, nle rfl, nle rfl⟩, ?_⟩; conv => whnf) | fail)
      refine ⟨fun hbig => ?_, fun hbig => ?_⟩ <;> replace hbig := nm hbig <;> (try rw [Int.toNat_zero] at hbig) <;> (try rw [Int.toNat_one] at hbig)
      · conv => whnf
        repeat (first | ((with_reducible first | apply ga | apply gb | apply gc | apply gd | apply ge | apply gf | apply gg | apply gh | apply gi | apply gj); conv => whnf) | (refine ⟨⟨rfl, rfl, nle rfl, nle rfl⟩, ?_⟩; conv => whnf) | fail)
        have e2 : srcL l = ([], 4) := by rw [e, if_pos (by rw [← hL]; exact hbig)]
        rw [e2]
        exact done_tup [st [], i64 4] [] rfl ⟨.same, .same, trivial⟩
      · have e2 : srcL l = (L, 0) := by rw [e, if_neg (by rw [← hL]; omega), hL]
        conv => whnf
        repeat (first | ((with_reducible first | apply ga | apply gb | apply gc | apply gd | apply ge | apply gf | apply gg | apply gh | apply gi | apply gj); conv => whnf) | (refine ⟨⟨rfl, rfl, nle rfl, nle rfl⟩, ?_⟩; conv => whnf) | fail)
        refine ⟨⟨rfl, rfl, rfl, nle (by simp [bytesO, rowA]), fun a ha => rfl⟩, ?_⟩
        conv => whnf
        repeat (first | ((with_reducible first | apply ga | apply gb | apply gc | apply gd | apply ge | apply gf | apply gg | apply gh | apply gi | apply gj); conv => whnf) | (refine ⟨⟨rfl, rfl, nle rfl, nle rfl⟩, ?_⟩; conv => whnf) | fail)
        have eb : (List.range L.length).map (fun i => ((bytesO g L).f (0 + i) 0).byte) = L := bytes_str rfl fun i _ => rfl
        rw [e2]
        exact done_tup [st L, i64 0] [] rfl ⟨VLe.eqp (congrArg PV.str eb), .same, trivial⟩
end Go.Proofs.YtolgdbekdkldjaaDoor

namespace Go.Proofs.YtolgdbekdkldjaaDoor
open Go Go.AM
attribute [local irreducible] AWP CallK PureCall SubS HeapCall
def bld (u : Bool) (g n : Nat) : AO := ⟨60, 0, 2, 1, fun _ j => getL [bif u then .ptr 6 0 2 0 0 else .pv .nilP, .row 1006 g 1 0 n] j⟩
def wrF : AV := .func (.func 26) 1 (getL [.ptr 6 0 2 0 0]) 0 (getL [])
theorem wrF_le {H : Heap} {B : List Nat} {U : List (Nat × Nat)} (hU : lookL U 6 = some 6) : VLe H B U (.func (.func 26) 1 (getL [.ptr 6 0 2 0 0]) 0 (getL [])) wrF := .func _ _ _ _ _ _ _ (fun i hi => match i, hi with
  | 0, _ => .ptr _ _ _ _ _ _ _ _ _ hU rfl rfl rfl) (fun i hi => absurd hi (Nat.not_lt_zero i))
set_option maxHeartbeats 2000000 in
theorem f16 (l : List BankR) (hl : l.length ≤ 40) (hB : ∀ b ∈ l, BankB b) : PureCall Tryd.prog 16 [.pv (banksP l)] (prT (srcL l)) := by
  obtain ⟨X, hX⟩ : ∃ X, (imgL l).1 = X := ⟨_, rfl⟩
  have hXm : ∀ x ∈ X, mayB x = true := by rw [← hX]; exact img_may l _ _ (fun _ h => by cases h)
  have hXl : X.length ≤ 41000 := by have := img_len l (-1) []; rw [← hX]; unfold imgL; simp only [List.length_nil] at this; omega
  refine PureCall.run tab_ok mixed (by kernel_rfl) Tryd.func16 rfl rfl rfl ?_
  conv => whnf
  repeat (first | ((with_reducible first | apply ga | apply gb | apply gc | apply gd | apply ge | apply gf | apply gg | apply gh | apply gi | apply gj); conv => whnf) | (refine ⟨⟨rfl, rfl, nle rfl, nle rfl⟩, ?_⟩; conv => whnf) | fail)
  refine CallK.drop [] (f14 l hl hB) ⟨.same, trivial⟩ ?_
  conv => whnf
  repeat (first | ((with_reducible first | apply ga | apply gb | apply gc | apply gd | apply ge | apply gf | apply gg | apply gh | apply gi | apply gj); conv => whnf) | (refine ⟨⟨rfl, rfl, nle rfl, nle rfl⟩, ?_⟩; conv => whnf) | fail)
  refine ⟨fun he => ?_, fun he => ?_⟩ <;> replace he := nm he <;> (try rw [Int.toNat_zero] at he) <;> (try rw [Int.toNat_one] at he)
  · conv => whnf
    repeat (first | ((with_reducible first | apply ga | apply gb | apply gc | apply gd | apply ge | apply gf | apply gg | apply gh | apply gi | apply gj); conv => whnf) | (refine ⟨⟨rfl, rfl, nle rfl, nle rfl⟩, ?_⟩; conv => whnf) | fail)
    have e : srcL l = ([], (imgL l).2) := by unfold srcL; rw [if_pos he]
    rw [e]
    exact done_tup [st [], i64 (imgL l).2] [] rfl ⟨.same, .same, trivial⟩
  · have e : srcL l = if 65536 < ((srcM X).length : Int) then ([], 4) else (srcM X, 0) := by unfold srcL; rw [if_neg (by simpa using he), hX]
    rw [hX]
    conv => whnf
    repeat (first | ((with_reducible first | apply ga | apply gb | apply gc | apply gd | apply ge | apply gf | apply gg | apply gh | apply gi | apply gj); conv => whnf) | (refine ⟨⟨rfl, rfl, nle rfl, nle rfl⟩, ?_⟩; conv => whnf) | fail)
    by_cases hne : X = []
    · subst hne
      refine ex_loop tab_ok mixed (fun _ : Nat => True) (fun _ => mkSt 44 [(6, .ptr 6 0 2 0 0), (22, i64 0), (23, i64 0)] [(6, ⟨60, 0, 2, 1, fun _ j => getL [.pv .nilP, .nilS] j⟩)]) (fun x => x) 0 trivial (SubS.mk [] rfl ⟨⟨_, rfl, .ptr _ _ _ _ _ _ _ _ _ rfl rfl rfl rfl⟩, ⟨_, rfl, .same⟩, ⟨_, rfl, .same⟩, trivial⟩ ⟨.inl ⟨_, _, rfl, rfl, rfl, ole2 rfl rfl rfl rfl rfl rfl .same .nils⟩, trivial⟩) ?_
      intro _ _
      conv => whnf
      repeat (first | ((with_reducible first | apply ga | apply gb | apply gc | apply gd | apply ge | apply gf | apply gg | apply gh | apply gi | apply gj); conv => whnf) | (refine ⟨⟨rfl, rfl, nle rfl, nle rfl⟩, ?_⟩; conv => whnf) | fail)
      refine ⟨fun hc => ?_, fun hc => ?_⟩ <;> replace hc := nm hc <;> (try rw [Int.toNat_zero] at hc) <;> (try rw [Int.toNat_one] at hc)
      · exfalso; omega
      · conv => whnf
        repeat (first | ((with_reducible first | apply ga | apply gb | apply gc | apply gd | apply ge | apply gf | apply gg | apply gh | apply gi | apply gj); conv => whnf) | (refine ⟨⟨rfl, rfl, nle rfl, nle rfl⟩, ?_⟩; conv => whnf) | fail)
        refine CallK.inline tab_ok (by kernel_rfl) Tryd.func28 rfl rfl rfl rfl ?_
        conv => whnf
        repeat (first | ((with_reducible first | apply ga | apply gb | apply gc | apply gd | apply ge | apply gf | apply gg | apply gh | apply gi | apply gj); conv => whnf) | (refine ⟨⟨rfl, rfl, nle rfl, nle rfl⟩, ?_⟩; conv => whnf) | fail)
        refine ⟨fun hbig => ?_, fun hbig => ?_⟩ <;> replace hbig := nm hbig <;> (try rw [Int.toNat_zero] at hbig) <;> (try rw [Int.toNat_one] at hbig)
        · exfalso; omega
        · conv => whnf
          repeat (first | ((with_reducible first | apply ga | apply gb | apply gc | apply gd | apply ge | apply gf | apply gg | apply gh | apply gi | apply gj); conv => whnf) | (refine ⟨⟨rfl, rfl, nle rfl, nle rfl⟩, ?_⟩; conv => whnf) | fail)
          refine callk_bstring0 rfl rfl rfl rfl rfl ?_
          conv => whnf
          repeat (first | ((with_reducible first | apply ga | apply gb | apply gc | apply gd | apply ge | apply gf | apply gg | apply gh | apply gi | apply gj); conv => whnf) | (refine ⟨⟨rfl, rfl, nle rfl, nle rfl⟩, ?_⟩; conv => whnf) | fail)
          rw [e]
          exact done_tup [st [], i64 0] [] rfl ⟨.same, .same, trivial⟩
    · refine ex_loop tab_ok mixed (fun x : Nat × Bool × List UInt8 × Nat => x.1 ≤ X.length ∧ x.2.2.1 = srcM (X.take x.1)) (fun x => mkSt 44 [(6, .ptr 6 0 2 0 0), (7, wrF), (21, .pv (linesP X)), (22, i64 X.length), (23, i64 x.1)] [(6, bld x.2.1 x.2.2.2 x.2.2.1.length), (1006, bytesO x.2.2.2 x.2.2.1)]) (fun x => X.length - x.1) (0, false, [], 0) ⟨Nat.zero_le _, rfl⟩ (SubS.mkN [] [(6, 6)] rfl rfl rfl ⟨⟨_, rfl, .ptr _ _ _ _ _ _ _ _ _ rfl rfl rfl rfl⟩, ⟨_, rfl, wrF_le rfl⟩, ⟨_, rfl, .same⟩, ⟨_, rfl, .same⟩, ⟨_, rfl, .same⟩, trivial⟩ ⟨.inl ⟨_, _, rfl, rfl, rfl, ole2 rfl rfl rfl rfl rfl rfl .same (.void _ _ _)⟩, .inr ⟨rfl, rfl⟩, trivial⟩) ?_
      rintro ⟨i, u, L, g⟩ ⟨hi, hL⟩
      dsimp only at hi hL ⊢
      have hLl : L.length ≤ 61 * X.length := by
        rw [hL]
        have := srcM_len (X.take i) (fun x hx => hXm x (List.mem_of_mem_take hx))
        have : (X.take i).length ≤ X.length := by simp; omega
        omega
      conv => whnf
      repeat (first | ((with_reducible first | apply ga | apply gb | apply gc | apply gd | apply ge | apply gf | apply gg | apply gh | apply gi | apply gj); conv => whnf) | (refine ⟨⟨rfl, rfl, nle rfl, nle rfl⟩, ?_⟩; conv => whnf) | fail)
      refine ⟨fun hc => ?_, fun hc => ?_⟩ <;> replace hc := nm hc <;> (try rw [Int.toNat_zero] at hc) <;> (try rw [Int.toNat_one] at hc)
      · have hlt : i < X.length := by omega
        have hx : X.getD i lz ∈ X := by rw [List.getD_eq_getElem?_getD, List.getElem?_eq_getElem hlt]; exact List.getElem_mem hlt
        have hm := hXm _ hx
        have hbd := may_bd hm
        obtain ⟨s1, s2, s3⟩ := scan_print hm
        have s2' : (txt (X.getD i lz)).length ≤ 60 := s2
        have c1 := tk23 (X.getD i lz) ⟨by omega, by omega, by omega, hbd.2.2.2.1⟩
        rw [show print (X.getD i lz) = (txt (X.getD i lz), 0) from print_ok hm] at c1
        conv => whnf
        repeat (first | ((with_reducible first | apply ga | apply gb | apply gc | apply gd | apply ge | apply gf | apply gg | apply gh | apply gi | apply gj); conv => whnf) | (refine ⟨⟨rfl, rfl, nle rfl, nle rfl⟩, ?_⟩; conv => whnf) | fail)
        refine ⟨⟨by omega, by omega, rfl⟩, ?_⟩
        conv => whnf
        repeat (first | ((with_reducible first | apply ga | apply gb | apply gc | apply gd | apply ge | apply gf | apply gg | apply gh | apply gi | apply gj); conv => whnf) | (refine ⟨⟨rfl, rfl, nle rfl, nle rfl⟩, ?_⟩; conv => whnf) | fail)
        refine ⟨⟨by decide⟩, ?_⟩
        conv => whnf
        repeat (first | ((with_reducible first | apply ga | apply gb | apply gc | apply gd | apply ge | apply gf | apply gg | apply gh | apply gi | apply gj); conv => whnf) | (refine ⟨⟨rfl, rfl, nle rfl, nle rfl⟩, ?_⟩; conv => whnf) | fail)
        refine CallK.flat [] c1 ⟨agg5 .same .same .same .same .same, trivial⟩ rfl ?_
        conv => whnf
        repeat (first | ((with_reducible first | apply ga | apply gb | apply gc | apply gd | apply ge | apply gf | apply gg | apply gh | apply gi | apply gj); conv => whnf) | (refine ⟨⟨rfl, rfl, nle rfl, nle rfl⟩, ?_⟩; conv => whnf) | fail)
        refine ⟨fun h => absurd h (by simp), fun _ => ?_⟩
        conv => whnf
        repeat (first | ((with_reducible first | apply ga | apply gb | apply gc | apply gd | apply ge | apply gf | apply gg | apply gh | apply gi | apply gj); conv => whnf) | (refine ⟨⟨rfl, rfl, nle rfl, nle rfl⟩, ?_⟩; conv => whnf) | fail)
        cases u with
        | false =>
          refine CallK.inline tab_ok (by kernel_rfl) Tryd.func26 rfl rfl rfl rfl ?_
          conv => whnf
          repeat (first | ((with_reducible first | apply ga | apply gb | apply gc | apply gd | apply ge | apply gf | apply gg | apply gh | apply gi | apply gj); conv => whnf) | (refine ⟨⟨rfl, rfl, nle rfl, nle rfl⟩, ?_⟩; conv => whnf) | fail)
          refine callk_fresh rfl rfl rfl rfl rfl rfl ?_
          conv => whnf
          repeat (first | ((with_reducible first | apply ga | apply gb | apply gc | apply gd | apply ge | apply gf | apply gg | apply gh | apply gi | apply gj); conv => whnf) | (refine ⟨⟨rfl, rfl, nle rfl, nle rfl⟩, ?_⟩; conv => whnf) | fail)
          refine ⟨⟨rfl, rfl, rfl, rfl, rfl, rfl, rfl, show (L.length + (txt (X.getD i lz)).length) * 1 ≤ 140737488355328 by omega⟩, ?_⟩
          conv => whnf
          repeat (first | ((with_reducible first | apply ga | apply gb | apply gc | apply gd | apply ge | apply gf | apply gg | apply gh | apply gi | apply gj); conv => whnf) | (refine ⟨⟨rfl, rfl, nle rfl, nle rfl⟩, ?_⟩; conv => whnf) | fail)
          conv => whnf
          repeat (first | ((with_reducible first | apply ga | apply gb | apply gc | apply gd | apply ge | apply gf | apply gg | apply gh | apply gi | apply gj); conv => whnf) | (refine ⟨⟨rfl, rfl, nle rfl, nle rfl⟩, ?_⟩; conv => whnf) | fail)
          refine CallK.inline tab_ok (by kernel_rfl) Tryd.func26 rfl rfl rfl rfl ?_
          conv => whnf
          repeat (first | ((with_reducible first | apply ga | apply gb | apply gc | apply gd | apply ge | apply gf | apply gg | apply gh | apply gi | apply gj); conv => whnf) | (refine ⟨⟨rfl, rfl, nle rfl, nle rfl⟩, ?_⟩; conv => whnf) | fail)
          refine callk_used rfl rfl rfl rfl rfl ?_
          conv => whnf
          repeat (first | ((with_reducible first | apply ga | apply gb | apply gc | apply gd | apply ge | apply gf | apply gg | apply gh | apply gi | apply gj); conv => whnf) | (refine ⟨⟨rfl, rfl, nle rfl, nle rfl⟩, ?_⟩; conv => whnf) | fail)
          refine ⟨⟨rfl, rfl, rfl, rfl, rfl, rfl, rfl, show (L.length + (txt (X.getD i lz)).length + 1) * 1 ≤ 140737488355328 by omega⟩, ?_⟩
          conv => whnf
          repeat (first | ((with_reducible first | apply ga | apply gb | apply gc | apply gd | apply ge | apply gf | apply gg | apply gh | apply gi | apply gj); conv => whnf) | (refine ⟨⟨rfl, rfl, nle rfl, nle rfl⟩, ?_⟩; conv => whnf) | fail)
          conv => whnf
          repeat (first | ((with_reducible first | apply ga | apply gb | apply gc | apply gd | apply ge | apply gf | apply gg | apply gh | apply gi | apply gj); conv => whnf) | (refine ⟨⟨rfl, rfl, nle rfl, nle rfl⟩, ?_⟩; conv => whnf) | fail)
          refine ⟨⟨by unfold inI64; omega⟩, ?_⟩
          conv => whnf
          repeat (first | ((with_reducible first | apply ga | apply gb | apply gc | apply gd | apply ge | apply gf | apply gg | apply gh | apply gi | apply gj); conv => whnf) | (refine ⟨⟨rfl, rfl, nle rfl, nle rfl⟩, ?_⟩; conv => whnf) | fail)
          refine ⟨(i + 1, true, L ++ txt (X.getD i lz) ++ [10], g + 1 + 1), ⟨hlt, by dsimp only; rw [take_snoc (d := lz) hlt, srcM_snoc, hL]⟩, SubS.mkN [] [(6, 6), (1006, 1006)] rfl rfl rfl ⟨⟨_, rfl, .ptr _ _ _ _ _ _ _ _ _ rfl rfl rfl rfl⟩, ⟨_, rfl, wrF_le rfl⟩, ⟨_, rfl, .same⟩, ⟨_, rfl, .same⟩, ⟨_, rfl, .same⟩, trivial⟩ ⟨.inl ⟨_, _, rfl, rfl, rfl, ole2 rfl rfl rfl rfl rfl rfl (.ptr _ _ _ _ _ _ _ _ _ rfl rfl rfl rfl) (.row _ _ _ _ _ _ _ _ _ rfl rfl rfl (by simp [Nat.add_assoc]))⟩, .inl ⟨_, _, rfl, rfl, rfl, CellsA.row ?_ rfl rfl (by simp [Nat.add_assoc])⟩, trivial⟩, by dsimp only; omega⟩
          dsimp only
          refine CellsA.cat (CellsA.cat (fun _ _ _ _ => .same) rfl (fun _ _ _ _ => .same)) (by rw [List.length_append]) (CellsA.one fun j hj => ?_)
          match j, hj with
          | 0, _ => exact .same
        | true =>
          refine CallK.inline tab_ok (by kernel_rfl) Tryd.func26 rfl rfl rfl rfl ?_
          conv => whnf
          repeat (first | ((with_reducible first | apply ga | apply gb | apply gc | apply gd | apply ge | apply gf | apply gg | apply gh | apply gi | apply gj); conv => whnf) | (refine ⟨⟨rfl, rfl, nle rfl, nle rfl⟩, ?_⟩; conv => whnf) | fail)
          refine callk_used rfl rfl rfl rfl rfl ?_
          conv => whnf
          repeat (first | ((with_reducible first | apply ga | apply gb | apply gc | apply gd | apply ge | apply gf | apply gg | apply gh | apply gi | apply gj); conv => whnf) | (refine ⟨⟨rfl, rfl, nle rfl, nle rfl⟩, ?_⟩; conv => whnf) | fail)
          refine ⟨⟨rfl, rfl, rfl, rfl, rfl, rfl, rfl, show (L.length + (txt (X.getD i lz)).length) * 1 ≤ 140737488355328 by omega⟩, ?_⟩
          conv => whnf
          repeat (first | ((with_reducible first | apply ga | apply gb | apply gc | apply gd | apply ge | apply gf | apply gg | apply gh | apply gi | apply gj); conv => whnf) | (refine ⟨⟨rfl, rfl, nle rfl, nle rfl⟩, ?_⟩; conv => whnf) | fail)
          conv => whnf
          repeat (first | ((with_reducible first | apply ga | apply gb | apply gc | apply gd | apply ge | apply gf | apply gg | apply gh | apply gi | apply gj); conv => whnf) | (refine ⟨⟨rfl, rfl, nle rfl, nle rfl⟩, ?_⟩; conv => whnf) | fail)
          refine CallK.inline tab_ok (by kernel_rfl) Tryd.func26 rfl rfl rfl rfl ?_
          conv => whnf
          repeat (first | ((with_reducible first | apply ga | apply gb | apply gc | apply gd | apply ge | apply gf | apply gg | apply gh | apply gi | apply gj); conv => whnf) | (refine ⟨⟨rfl, rfl, nle rfl, nle rfl⟩, ?_⟩; conv => whnf) | fail)
          refine callk_used rfl rfl rfl rfl rfl ?_
          conv => whnf
          repeat (first | ((with_reducible first | apply ga | apply gb | apply gc | apply gd | apply ge | apply gf | apply gg | apply gh | apply gi | apply gj); conv => whnf) | (refine ⟨⟨rfl, rfl, nle rfl, nle rfl⟩, ?_⟩; conv => whnf) | fail)
          refine ⟨⟨rfl, rfl, rfl, rfl, rfl, rfl, rfl, show (L.length + (txt (X.getD i lz)).length + 1) * 1 ≤ 140737488355328 by omega⟩, ?_⟩
          conv => whnf
          repeat (first | ((with_reducible first | apply ga | apply gb | apply gc | apply gd | apply ge | apply gf | apply gg | apply gh | apply gi | apply gj); conv => whnf) | (refine ⟨⟨rfl, rfl, nle rfl, nle rfl⟩, ?_⟩; conv => whnf) | fail)
          conv => whnf
          repeat (first | ((with_reducible first | apply ga | apply gb | apply gc | apply gd | apply ge | apply gf | apply gg | apply gh | apply gi | apply gj); conv => whnf) | (refine ⟨⟨rfl, rfl, nle rfl, nle rfl⟩, ?_⟩; conv => whnf) | fail)
          refine ⟨⟨by unfold inI64; omega⟩, ?_⟩
          conv => whnf
          repeat (first | ((with_reducible first | apply ga | apply gb | apply gc | apply gd | apply ge | apply gf | apply gg | apply gh | apply gi | apply gj); conv => whnf) | (refine ⟨⟨rfl, rfl, nle rfl, nle rfl⟩, ?_⟩; conv => whnf) | fail)
          refine ⟨(i + 1, true, L ++ txt (X.getD i lz) ++ [10], g + 1 + 1), ⟨hlt, by dsimp only; rw [take_snoc (d := lz) hlt, srcM_snoc, hL]⟩, SubS.mkN [] [(6, 6), (1006, 1006)] rfl rfl rfl ⟨⟨_, rfl, .ptr _ _ _ _ _ _ _ _ _ rfl rfl rfl rfl⟩, ⟨_, rfl, wrF_le rfl⟩, ⟨_, rfl, .same⟩, ⟨_, rfl, .same⟩, ⟨_, rfl, .same⟩, trivial⟩ ⟨.inl ⟨_, _, rfl, rfl, rfl, ole2 rfl rfl rfl rfl rfl rfl (.ptr _ _ _ _ _ _ _ _ _ rfl rfl rfl rfl) (.row _ _ _ _ _ _ _ _ _ rfl rfl rfl (by simp [Nat.add_assoc]))⟩, .inl ⟨_, _, rfl, rfl, rfl, CellsA.row ?_ rfl rfl (by simp [Nat.add_assoc])⟩, trivial⟩, by dsimp only; omega⟩
          dsimp only
          refine CellsA.cat (CellsA.cat (fun _ _ _ _ => .same) rfl (fun _ _ _ _ => .same)) (by rw [List.length_append]) (CellsA.one fun j hj => ?_)
          match j, hj with
          | 0, _ => exact .same
      · rw [List.take_of_length_le (by omega)] at hL
        have hpos : 0 < L.length := by
          rw [hL]
          cases X with
          | nil => exact absurd rfl hne
          | cons x X => unfold srcM; rw [List.flatMap_cons]; simp; omega
        conv => whnf
        repeat (first | ((with_reducible first | apply ga | apply gb | apply gc | apply gd | apply ge | apply gf | apply gg | apply gh | apply gi | apply gj); conv => whnf) | (refine ⟨⟨rfl, rfl, nle rfl, nle rfl⟩, ?_⟩; conv => whnf) | fail)
        refine CallK.inline tab_ok (by kernel_rfl) Tryd.func28 rfl rfl rfl rfl ?_
        conv => whnf
        repeat (first | ((with_reducible first | apply ga | apply gb | apply gc | apply gd | apply ge | apply gf | apply gg | apply gh | apply gi | apply gj); conv => whnf) | (refine ⟨⟨rfl, rfl, nle rfl, nle rfl⟩, ?_⟩; conv => whnf) | fail)
        refine ⟨fun hbig => ?_, fun hbig => ?_⟩ <;> replace hbig := nm hbig <;> (try rw [Int.toNat_zero] at hbig) <;> (try rw [Int.toNat_one] at hbig)
        · conv => whnf
          repeat (first | ((with_reducible first | apply ga | apply gb | apply gc | apply gd | apply ge | apply gf | apply gg | apply gh | apply gi | apply gj); conv => whnf) | (refine ⟨⟨rfl, rfl, nle rfl, nle rfl⟩, ?_⟩; conv => whnf) | fail)
          have e2 : srcL l = ([], 4) := by rw [e, if_pos (by rw [← hL]; exact hbig)]
          rw [e2]
          exact done_tup [st [], i64 4] [] rfl ⟨.same, .same, trivial⟩
        · have e2 : srcL l = (L, 0) := by rw [e, if_neg (by rw [← hL]; omega), hL]
          conv => whnf
          repeat (first | ((with_reducible first | apply ga | apply gb | apply gc | apply gd | apply ge | apply gf | apply gg | apply gh | apply gi | apply gj); conv => whnf) | (refine ⟨⟨rfl, rfl, nle rfl, nle rfl⟩, ?_⟩; conv => whnf) | fail)
          refine callk_bstring (l := L) rfl rfl rfl rfl rfl rfl rfl rfl rfl (Nat.le_refl _) rfl hpos (by omega) (fun i hi => rfl) ?_
          conv => whnf
          repeat (first | ((with_reducible first | apply ga | apply gb | apply gc | apply gd | apply ge | apply gf | apply gg | apply gh | apply gi | apply gj); conv => whnf) | (refine ⟨⟨rfl, rfl, nle rfl, nle rfl⟩, ?_⟩; conv => whnf) | fail)
          rw [e2]
          exact done_tup [st L, i64 0] [] rfl ⟨.same, .same, trivial⟩
end Go.Proofs.YtolgdbekdkldjaaDoor

namespace Go.Proofs.YtolgdbekdkldjaaDoor
open Go Go.AM
attribute [local irreducible] AWP CallK PureCall SubS HeapCall
def opL (nm : List UInt8) (k : Int) : Line := ⟨[], nm, ⟨1, [], k⟩⟩
theorem f18 (nm : List UInt8) (k : Int) : PureCall Tryd.prog 18 [st nm, i64 k] (opL nm k).av := by
  refine PureCall.run tab_ok mixed (by kernel_rfl) Tryd.func18 rfl rfl rfl ?_
  conv => whnf
  repeat (first | ((with_reducible first | apply ga | apply gb | apply gc | apply gd | apply ge | apply gf | apply gg | apply gh | apply gi | apply gj); conv => whnf) | (refine ⟨⟨rfl, rfl, nle rfl, nle rfl⟩, ?_⟩; conv => whnf) | fail)
  exact ⟨[], agg5 .same .same .same .same .same⟩
theorem a1 : bankL ⟨4, [6, 28677, 6]⟩ = ([opL [76, 79, 67] 4096, opL [77, 80] 5, ⟨[], [69, 88, 84, 69, 78, 68], az⟩], 0) := by kernel_rfl
theorem a2 : srcL [⟨0, [15, 20495]⟩] = ([32, 76, 79, 67, 32, 48, 10, 32, 84, 67, 32, 49, 53, 10, 32, 82, 69, 83, 85, 77, 69, 10], 0) := by kernel_rfl
theorem a3 : oneL (12293 % 32768) false = opL [67, 65] 5 := by kernel_rfl
theorem a4 : oneL (6 % 32768) true = opL [82, 69, 65, 68] 6 := by kernel_rfl
theorem cellsW {H : Heap} {B : List Nat} {U : List (Nat × Nat)} {F : Nat → Nat → AV} {L : List Nat} (h : ∀ i, i < L.length → VLe H B U (F i 0) (.pv (.int .u16 (L.getD i 0 : Nat)))) : CellsA H B U F wcell 0 1 L := fun i j hi hj => by
  have : j = 0 := by omega
  subst this; exact h i hi
set_option maxHeartbeats 1000000 in
set_option maxRecDepth 100000 in
theorem f10 : PureCall Tryd.prog 10 [] (bb true) := by
  have c1 := f11 ⟨4, [6, 28677, 6]⟩ ⟨by unfold inI64; decide, by decide, by decide⟩
  have c2 := f16 [⟨0, [15, 20495]⟩] (by decide) (fun b hb => by rw [List.mem_singleton] at hb; subst hb; exact ⟨by unfold inI64; decide, by decide, by decide⟩)
  have c3 := f8 12293 false (by decide)
  have c4 := f8 6 true (by decide)
  rw [a1] at c1
  rw [a2] at c2
  rw [a3] at c3
  rw [a4] at c4
  refine PureCall.run tab_ok mixed (by kernel_rfl) Tryd.func10 rfl rfl rfl ?_
  conv => whnf
  repeat (first | ((with_reducible first | apply ga | apply gb | apply gc | apply gd | apply ge | apply gf | apply gg | apply gh | apply gi | apply gj); conv => whnf) | (refine ⟨⟨rfl, rfl, nle rfl, nle rfl⟩, ?_⟩; conv => whnf) | fail)
  refine CallK.drop [6] c1 ⟨agg2 .same (VLe.frzO (g := 0) rfl rfl (CellsA.row (cellsW fun i hi => ?_) rfl rfl rfl) rfl), trivial⟩ ?_
  · match i, hi with
    | 0, _ => exact .same
    | 1, _ => exact .same
    | 2, _ => exact .same
  conv => whnf
  repeat (first | ((with_reducible first | apply ga | apply gb | apply gc | apply gd | apply ge | apply gf | apply gg | apply gh | apply gi | apply gj); conv => whnf) | (refine ⟨⟨rfl, rfl, nle rfl, nle rfl⟩, ?_⟩; conv => whnf) | fail)
  refine CallK.drop [14, 12] c2 ⟨VLe.frzO (g := 0) rfl rfl (CellsA.row (CellsA.one fun j hj => ?_) rfl rfl rfl) rfl, trivial⟩ ?_
  · match j, hj with
    | 0, _ => exact .same
    | 1, _ =>
      refine VLe.frzO (g := 0) rfl rfl (CellsA.row (cellsW fun i hi => ?_) rfl rfl rfl) rfl
      match i, hi with
      | 0, _ => exact .same
      | 1, _ => exact .same
  conv => whnf
  repeat (first | ((with_reducible first | apply ga | apply gb | apply gc | apply gd | apply ge | apply gf | apply gg | apply gh | apply gi | apply gj); conv => whnf) | (refine ⟨⟨rfl, rfl, nle rfl, nle rfl⟩, ?_⟩; conv => whnf) | fail)
  refine CallK.flat [] c3 ⟨.same, .same, trivial⟩ rfl ?_
  conv => whnf
  repeat (first | ((with_reducible first | apply ga | apply gb | apply gc | apply gd | apply ge | apply gf | apply gg | apply gh | apply gi | apply gj); conv => whnf) | (refine ⟨⟨rfl, rfl, nle rfl, nle rfl⟩, ?_⟩; conv => whnf) | fail)
  refine CallK.flat [] (f18 [67, 65] 5) ⟨.same, .same, trivial⟩ rfl ?_
  conv => whnf
  repeat (first | ((with_reducible first | apply ga | apply gb | apply gc | apply gd | apply ge | apply gf | apply gg | apply gh | apply gi | apply gj); conv => whnf) | (refine ⟨⟨rfl, rfl, nle rfl, nle rfl⟩, ?_⟩; conv => whnf) | fail)
  repeat (first | ((with_reducible first | apply ga | apply gb | apply gc | apply gd | apply ge | apply gf | apply gg | apply gh | apply gi | apply gj); conv => whnf) | (refine ⟨⟨rfl, rfl, nle rfl, nle rfl⟩, ?_⟩; conv => whnf) | (refine CallK.flat [] c4 ⟨.same, .same, trivial⟩ rfl ?_; conv => whnf) | (refine CallK.flat [] (f18 [82, 69, 65, 68] 6) ⟨.same, .same, trivial⟩ rfl ?_; conv => whnf) | (refine CallK.flat [] (f18 [76, 79, 67] 4096) ⟨.same, .same, trivial⟩ rfl ?_; conv => whnf) | (refine CallK.flat [] (f18 [77, 80] 5) ⟨.same, .same, trivial⟩ rfl ?_; conv => whnf) | (refine ⟨fun _ => ?_, fun h => absurd h (by decide +kernel)⟩; conv => whnf) | (refine ⟨fun h => absurd h (by decide +kernel), fun _ => ?_⟩; conv => whnf) | fail)
  refine CallK.flat [35] (tk30 [opL [76, 79, 67] 4096, opL [77, 80] 5, ⟨[], [69, 88, 84, 69, 78, 68], az⟩] (by decide)) ⟨VLe.seqA, VLe.frzO (g := 0) rfl rfl (CellsA.row (fun i j hi hj => ?_) rfl rfl rfl) rfl, trivial⟩ rfl ?_
  · match i, hi, j, hj with
    | 0, _, 0, _ => exact .same
    | 0, _, 1, _ => exact .same
    | 0, _, 2, _ => exact .same
    | 0, _, 3, _ => exact .same
    | 0, _, 4, _ => exact .same
    | 1, _, 0, _ => exact .same
    | 1, _, 1, _ => exact .same
    | 1, _, 2, _ => exact .same
    | 1, _, 3, _ => exact .same
    | 1, _, 4, _ => exact .same
    | 2, _, 0, _ => exact .same
    | 2, _, 1, _ => exact .same
    | 2, _, 2, _ => exact .same
    | 2, _, 3, _ => exact .same
    | 2, _, 4, _ => exact .same
    | i + 3, h, _, _ => exact absurd (show i + 3 < 3 from h) (by omega)
    | _, _, j + 5, h => exact absurd (show j + 5 < 5 from h) (by omega)
  conv => whnf
  repeat (first | ((with_reducible first | apply ga | apply gb | apply gc | apply gd | apply ge | apply gf | apply gg | apply gh | apply gi | apply gj); conv => whnf) | (refine ⟨⟨rfl, rfl, nle rfl, nle rfl⟩, ?_⟩; conv => whnf) | fail)
  repeat (first | ((with_reducible first | apply ga | apply gb | apply gc | apply gd | apply ge | apply gf | apply gg | apply gh | apply gi | apply gj); conv => whnf) | (refine ⟨⟨rfl, rfl, nle rfl, nle rfl⟩, ?_⟩; conv => whnf) | (refine ⟨fun _ => ?_, fun h => absurd h (by decide +kernel)⟩; conv => whnf) | (refine ⟨fun h => absurd h (by decide +kernel), fun _ => ?_⟩; conv => whnf) | fail)
  exact done_bool _ _ rfl rfl rfl
theorem f3 (w : Nat) (x : Bool) (hw : w < 65536) : PureCall Tryd.prog 3 [u16 w, bb x] (bb true) := by
  refine PureCall.run tab_ok mixed (by kernel_rfl) Tryd.func3 rfl rfl rfl ?_
  conv => whnf
  repeat (first | ((with_reducible first | apply ga | apply gb | apply gc | apply gd | apply ge | apply gf | apply gg | apply gh | apply gi | apply gj); conv => whnf) | (refine ⟨⟨rfl, rfl, nle rfl, nle rfl⟩, ?_⟩; conv => whnf) | fail)
  refine CallK.flat [] (f8 w x hw) ⟨.same, .same, trivial⟩ rfl ?_
  conv => whnf
  repeat (first | ((with_reducible first | apply ga | apply gb | apply gc | apply gd | apply ge | apply gf | apply gg | apply gh | apply gi | apply gj); conv => whnf) | (refine ⟨⟨rfl, rfl, nle rfl, nle rfl⟩, ?_⟩; conv => whnf) | fail)
  refine CallK.flat [] (f9 w x hw) ⟨.same, .same, trivial⟩ rfl ?_
  conv => whnf
  repeat (first | ((with_reducible first | apply ga | apply gb | apply gc | apply gd | apply ge | apply gf | apply gg | apply gh | apply gi | apply gj); conv => whnf) | (refine ⟨⟨rfl, rfl, nle rfl, nle rfl⟩, ?_⟩; conv => whnf) | fail)
  repeat (first | ((with_reducible first | apply ga | apply gb | apply gc | apply gd | apply ge | apply gf | apply gg | apply gh | apply gi | apply gj); conv => whnf) | (refine ⟨⟨rfl, rfl, nle rfl, nle rfl⟩, ?_⟩; conv => whnf) | (refine CallK.flat [] f10 trivial rfl ?_; conv => whnf) | (refine ⟨fun _ => ?_, fun h => absurd h (by simp)⟩; conv => whnf) | fail)
  exact done_bool _ _ rfl rfl rfl
theorem bl_len2 (b : BankR) : (bankL b).1.length < 2 ^ 40 := by have := bank_len b; omega
theorem f4 (b : BankR) (hB : BankB b) : PureCall Tryd.prog 4 [b.av] (bb true) := by
  refine PureCall.run tab_ok mixed (by kernel_rfl) Tryd.func4 rfl rfl rfl ?_
  conv => whnf
  repeat (first | ((with_reducible first | apply ga | apply gb | apply gc | apply gd | apply ge | apply gf | apply gg | apply gh | apply gi | apply gj); conv => whnf) | (refine ⟨⟨rfl, rfl, nle rfl, nle rfl⟩, ?_⟩; conv => whnf) | fail)
  refine CallK.drop [] (f11 b hB) ⟨agg2 .same .same, trivial⟩ ?_
  conv => whnf
  repeat (first | ((with_reducible first | apply ga | apply gb | apply gc | apply gd | apply ge | apply gf | apply gg | apply gh | apply gi | apply gj); conv => whnf) | (refine ⟨⟨rfl, rfl, nle rfl, nle rfl⟩, ?_⟩; conv => whnf) | fail)
  refine CallK.drop [] (f12 b hB) ⟨agg2 .same .same, trivial⟩ ?_
  conv => whnf
  repeat (first | ((with_reducible first | apply ga | apply gb | apply gc | apply gd | apply ge | apply gf | apply gg | apply gh | apply gi | apply gj); conv => whnf) | (refine ⟨⟨rfl, rfl, nle rfl, nle rfl⟩, ?_⟩; conv => whnf) | fail)
  repeat (first | ((with_reducible first | apply ga | apply gb | apply gc | apply gd | apply ge | apply gf | apply gg | apply gh | apply gi | apply gj); conv => whnf) | (refine ⟨⟨rfl, rfl, nle rfl, nle rfl⟩, ?_⟩; conv => whnf) | (refine CallK.flat [] (tk30 (bankL b).1 (bl_len2 b)) ⟨.same, .same, trivial⟩ rfl ?_; conv => whnf) | (refine CallK.flat [] f10 trivial rfl ?_; conv => whnf) | (refine ⟨fun _ => ?_, fun h => absurd h (by simp)⟩; conv => whnf) | fail)
  exact done_bool _ _ rfl rfl rfl
theorem f5 (l : List BankR) (hl : l.length < 2 ^ 46) (hB : ∀ b ∈ l, BankB b) : PureCall Tryd.prog 5 [.pv (banksP l)] (bb true) := by
  refine PureCall.run tab_ok mixed (by kernel_rfl) Tryd.func5 rfl rfl rfl ?_
  conv => whnf
  repeat (first | ((with_reducible first | apply ga | apply gb | apply gc | apply gd | apply ge | apply gf | apply gg | apply gh | apply gi | apply gj); conv => whnf) | (refine ⟨⟨rfl, rfl, nle rfl, nle rfl⟩, ?_⟩; conv => whnf) | fail)
  refine ⟨fun h4 => ?_, fun h4 => ?_⟩ <;> replace h4 := nm h4 <;> (try rw [Int.toNat_zero] at h4) <;> (try rw [Int.toNat_one] at h4)
  · conv => whnf
    repeat (first | ((with_reducible first | apply ga | apply gb | apply gc | apply gd | apply ge | apply gf | apply gg | apply gh | apply gi | apply gj); conv => whnf) | (refine ⟨⟨rfl, rfl, nle rfl, nle rfl⟩, ?_⟩; conv => whnf) | fail)
    refine CallK.flat [] f10 trivial rfl ?_
    conv => whnf
    repeat (first | ((with_reducible first | apply ga | apply gb | apply gc | apply gd | apply ge | apply gf | apply gg | apply gh | apply gi | apply gj); conv => whnf) | (refine ⟨⟨rfl, rfl, nle rfl, nle rfl⟩, ?_⟩; conv => whnf) | fail)
    exact done_bool _ _ rfl rfl rfl
  · have h4' : l.length ≤ 40 := by omega
    have hil := img_len l (-1) []
    conv => whnf
    repeat (first | ((with_reducible first | apply ga | apply gb | apply gc | apply gd | apply ge | apply gf | apply gg | apply gh | apply gi | apply gj); conv => whnf) | (refine ⟨⟨rfl, rfl, nle rfl, nle rfl⟩, ?_⟩; conv => whnf) | fail)
    refine CallK.drop [] (f14 l h4' hB) ⟨.same, trivial⟩ ?_
    conv => whnf
    repeat (first | ((with_reducible first | apply ga | apply gb | apply gc | apply gd | apply ge | apply gf | apply gg | apply gh | apply gi | apply gj); conv => whnf) | (refine ⟨⟨rfl, rfl, nle rfl, nle rfl⟩, ?_⟩; conv => whnf) | fail)
    refine CallK.drop [] (f15 l h4' hB) ⟨.same, trivial⟩ ?_
    conv => whnf
    repeat (first | ((with_reducible first | apply ga | apply gb | apply gc | apply gd | apply ge | apply gf | apply gg | apply gh | apply gi | apply gj); conv => whnf) | (refine ⟨⟨rfl, rfl, nle rfl, nle rfl⟩, ?_⟩; conv => whnf) | fail)
    refine CallK.flat [] (f16 l h4' hB) ⟨.same, trivial⟩ rfl ?_
    conv => whnf
    repeat (first | ((with_reducible first | apply ga | apply gb | apply gc | apply gd | apply ge | apply gf | apply gg | apply gh | apply gi | apply gj); conv => whnf) | (refine ⟨⟨rfl, rfl, nle rfl, nle rfl⟩, ?_⟩; conv => whnf) | fail)
    refine CallK.flat [] (f17 l h4' hB) ⟨.same, trivial⟩ rfl ?_
    conv => whnf
    repeat (first | ((with_reducible first | apply ga | apply gb | apply gc | apply gd | apply ge | apply gf | apply gg | apply gh | apply gi | apply gj); conv => whnf) | (refine ⟨⟨rfl, rfl, nle rfl, nle rfl⟩, ?_⟩; conv => whnf) | fail)
    repeat (first | ((with_reducible first | apply ga | apply gb | apply gc | apply gd | apply ge | apply gf | apply gg | apply gh | apply gi | apply gj); conv => whnf) | (refine ⟨⟨rfl, rfl, nle rfl, nle rfl⟩, ?_⟩; conv => whnf) | (refine CallK.flat [] (tk30 (imgL l).1 (by unfold imgL; simp only [List.length_nil] at hil; omega)) ⟨.same, .same, trivial⟩ rfl ?_; conv => whnf) | (refine CallK.flat [] f10 trivial rfl ?_; conv => whnf) | (refine ⟨fun _ => ?_, fun h => absurd h (by simp)⟩; conv => whnf) | fail)
    exact done_bool _ _ rfl rfl rfl
end Go.Proofs.YtolgdbekdkldjaaDoor

namespace Go.Proofs.YtolgdbekdkldjaaDoor
open Go Go.AM
attribute [local irreducible] AWP CallK PureCall SubS HeapCall
def catB (bs : List BankR) : List Line := bs.flatMap fun b => (bankL b).1
theorem img_split : ∀ (bs : List BankR) (last : Int) (acc : List Line), (imgF bs last acc).2 = 0 → (∀ b ∈ bs, (bankL b).2 = 0) ∧ (imgF bs last acc).1 = acc ++ catB bs
  | [], _, acc, _ => ⟨fun _ h => by (cases h), by simp [imgF, catB]⟩
  | b :: bs, last, acc, h => by
    rw [imgF] at h ⊢
    split at h
    · rename_i h1; exact absurd h h1
    · rename_i h1
      rw [if_neg h1]
      split at h
      · exact absurd (show (8 : Int) = 0 from h) (by decide)
      · rename_i h2
        rw [if_neg h2]
        obtain ⟨k1, k2⟩ := img_split bs _ _ h
        refine ⟨fun c hc => ?_, by rw [k2]; simp [catB]⟩
        rcases List.mem_cons.mp hc with rfl | hc
        · simpa using h1
        · exact k1 c hc
theorem img_err : ∀ (bs : List BankR) (last : Int) (acc : List Line), (imgF bs last acc).2 ≠ 0 → (imgF bs last acc).1 = []
  | [], _, acc, h => absurd rfl h
  | b :: bs, last, acc, h => by
    rw [imgF] at h ⊢
    split at h
    · rename_i h1; rw [if_pos h1]
    · rename_i h1
      rw [if_neg h1]
      split at h
      · rename_i h2; rw [if_pos h2]
      · rename_i h2; rw [if_neg h2]; exact img_err bs _ _ h
theorem nm_pos : ∀ c : Nat, 1 ≤ c → c ≤ 39 → (ent c).nm ≠ [] := by
  have h : ∀ c : Nat, c < 40 → 1 ≤ c → (ent c).nm ≠ [] := by decide +kernel
  intro c h1 h2
  exact h c (by omega) h1
def plainL (l : Line) : Prop := l.lab = [] ∧ l.op ≠ [] ∧ l.arg.k ≠ 2
theorem one_plain (w : Nat) (x : Bool) (hw : w < 32768) : plainL (oneL w x) := by
  obtain ⟨_, r1, r2, r3⟩ := ref_dec (w := w) x hw
  refine ⟨rfl, nm_pos _ r1 r2, ?_⟩
  unfold oneL
  dsimp only
  split
  · decide
  · exact (by decide : (1 : Int) ≠ 2)
theorem bl_plain : ∀ (ws : List Nat) (m : Bool), ∀ l ∈ bl m ws, plainL l
  | [], m, l, h => by cases m <;> simp [bl] at h
  | [x], m, l, h => by
    rw [bl] at h
    obtain rfl := List.mem_singleton.mp h
    exact one_plain _ _ (by omega)
  | x :: y :: r, m, l, h => by
    rw [bl] at h
    split at h
    · rcases List.mem_cons.mp h with rfl | h
      · exact one_plain _ _ (by omega)
      · exact bl_plain r _ l h
    · rcases List.mem_cons.mp h with rfl | h
      · exact one_plain _ _ (by omega)
      · exact bl_plain (y :: r) _ l h
theorem bank_plain {b : BankR} (h : (bankL b).2 = 0) : bankL b = (locL (1024 * b.num) :: bl false b.ws, 0) ∧ ∀ l ∈ (bankL b).1, plainL l := by
  have e : bankL b = (locL (1024 * b.num) :: bl false b.ws, 0) := by unfold bankL; rw [if_neg (by rw [bank_ok h]; simp)]
  refine ⟨e, fun l hl => ?_⟩
  rw [e] at hl
  rcases List.mem_cons.mp hl with rfl | hl
  · exact ⟨rfl, (by decide : LOCs ≠ []), (by decide : (1 : Int) ≠ 2)⟩
  · exact bl_plain _ _ l hl
theorem catB_snoc (L : List BankR) (b : BankR) : catB (L ++ [b]) = catB L ++ (bankL b).1 := by unfold catB; rw [List.flatMap_append]; simp
/-- A part of a list of lines. -/
theorem partLe {H : Heap} {B : List Nat} {U : List (Nat × Nat)} {E : TypeId} {A X : List Line} {p n m : Nat} (hm : m = X.length) (hn : p = n) (h : ∀ i, i < X.length → A.getD (n + i) lz = X.getD i lz) :
    VLe H B U (.pv (.seq E 5 m fun i j => Line.p (A.getD (p + i) lz) j)) (.pv (linesP X)) := by
  subst hm hn
  refine .pv _ _ (.seq _ _ _ _ _ _ fun i j hi hj => ?_)
  rw [h i hi]; exact .refl _
set_option maxHeartbeats 2000000 in
theorem f6 (l : List BankR) (hl : l.length < 2 ^ 46) (hB : ∀ b ∈ l, BankB b) : PureCall Tryd.prog 6 [.pv (banksP l)] (bb true) := by
  refine PureCall.run tab_ok mixed (by kernel_rfl) Tryd.func6 rfl rfl rfl ?_
  conv => whnf
  repeat (first | ((with_reducible first | apply ga | apply gb | apply gc | apply gd | apply ge | apply gf | apply gg | apply gh | apply gi | apply gj); conv => whnf) | (refine ⟨⟨rfl, rfl, nle rfl, nle rfl⟩, ?_⟩; conv => whnf) | (refine AD.plain rfl ?_; conv => whnf) | fail)
  refine ⟨fun h4 => ?_, fun h4 => ?_⟩ <;> replace h4 := nm h4 <;> (try rw [Int.toNat_zero] at h4) <;> (try rw [Int.toNat_one] at h4)
  · conv => whnf
    repeat (first | ((with_reducible first | apply ga | apply gb | apply gc | apply gd | apply ge | apply gf | apply gg | apply gh | apply gi | apply gj); conv => whnf) | (refine ⟨⟨rfl, rfl, nle rfl, nle rfl⟩, ?_⟩; conv => whnf) | (refine AD.plain rfl ?_; conv => whnf) | fail)
    refine CallK.flat [] f10 trivial rfl ?_
    conv => whnf
    repeat (first | ((with_reducible first | apply ga | apply gb | apply gc | apply gd | apply ge | apply gf | apply gg | apply gh | apply gi | apply gj); conv => whnf) | (refine ⟨⟨rfl, rfl, nle rfl, nle rfl⟩, ?_⟩; conv => whnf) | (refine AD.plain rfl ?_; conv => whnf) | fail)
    exact done_bool _ _ rfl rfl rfl
  · have h4' : l.length ≤ 40 := by omega
    have hil := img_len l (-1) []
    simp only [List.length_nil, Nat.zero_add] at hil
    conv => whnf
    repeat (first | ((with_reducible first | apply ga | apply gb | apply gc | apply gd | apply ge | apply gf | apply gg | apply gh | apply gi | apply gj); conv => whnf) | (refine ⟨⟨rfl, rfl, nle rfl, nle rfl⟩, ?_⟩; conv => whnf) | (refine AD.plain rfl ?_; conv => whnf) | fail)
    refine CallK.drop [] (f14 l h4' hB) ⟨.same, trivial⟩ ?_
    conv => whnf
    repeat (first | ((with_reducible first | apply ga | apply gb | apply gc | apply gd | apply ge | apply gf | apply gg | apply gh | apply gi | apply gj); conv => whnf) | (refine ⟨⟨rfl, rfl, nle rfl, nle rfl⟩, ?_⟩; conv => whnf) | (refine AD.plain rfl ?_; conv => whnf) | fail)
    refine ⟨fun he => ?_, fun he => ?_⟩ <;> replace he := nm he <;> (try rw [Int.toNat_zero] at he) <;> (try rw [Int.toNat_one] at he)
    · have := img_err l (-1) [] he
      have e0 : (imgL l).1 = [] := this
      rw [e0]
      conv => whnf
      repeat (first | ((with_reducible first | apply ga | apply gb | apply gc | apply gd | apply ge | apply gf | apply gg | apply gh | apply gi | apply gj); conv => whnf) | (refine ⟨⟨rfl, rfl, nle rfl, nle rfl⟩, ?_⟩; conv => whnf) | (refine AD.plain rfl ?_; conv => whnf) | fail)
      repeat (first | ((with_reducible first | apply ga | apply gb | apply gc | apply gd | apply ge | apply gf | apply gg | apply gh | apply gi | apply gj); conv => whnf) | (refine ⟨⟨rfl, rfl, nle rfl, nle rfl⟩, ?_⟩; conv => whnf) | (refine AD.plain rfl ?_; conv => whnf) | (refine CallK.flat [] f10 trivial rfl ?_; conv => whnf) | (refine ⟨fun _ => ?_, fun h => absurd h (by simp <;> omega)⟩; conv => whnf) | fail)
      exact done_bool _ _ rfl rfl rfl
    · obtain ⟨k1, k2⟩ := img_split l (-1) [] he
      rw [List.nil_append] at k2
      have k2' : (imgL l).1 = catB l := k2
      have hcl : (catB l).length ≤ 1025 * l.length := by rw [← k2]; exact hil
      rw [k2']
      conv => whnf
      repeat (first | ((with_reducible first | apply ga | apply gb | apply gc | apply gd | apply ge | apply gf | apply gg | apply gh | apply gi | apply gj); conv => whnf) | (refine ⟨⟨rfl, rfl, nle rfl, nle rfl⟩, ?_⟩; conv => whnf) | (refine AD.plain rfl ?_; conv => whnf) | fail)
      refine ex_loop tab_ok mixed (fun i : Nat => i ≤ l.length) (fun i => mkSt 122 [(0, .pv (banksP l)), (3, .pv (linesP (catB l))), (5, i64 (catB (l.take i)).length), (6, i64 i)] []) (fun i => l.length - i) 0 (Nat.zero_le _) (SubS.mk [] rfl ⟨⟨_, rfl, .same⟩, ⟨_, rfl, .same⟩, ⟨_, rfl, .same⟩, ⟨_, rfl, .same⟩, trivial⟩ trivial) ?_
      intro i hi
      conv => whnf
      repeat (first | ((with_reducible first | apply ga | apply gb | apply gc | apply gd | apply ge | apply gf | apply gg | apply gh | apply gi | apply gj); conv => whnf) | (refine ⟨⟨rfl, rfl, nle rfl, nle rfl⟩, ?_⟩; conv => whnf) | (refine AD.plain rfl ?_; conv => whnf) | fail)
      refine ⟨fun hc => ?_, fun hc => ?_⟩ <;> replace hc := nm hc <;> (try rw [Int.toNat_zero] at hc) <;> (try rw [Int.toNat_one] at hc)
      · have hlt : i < l.length := by omega
        have hx : l.getD i b0 ∈ l := by rw [List.getD_eq_getElem?_getD, List.getElem?_eq_getElem hlt]; exact List.getElem_mem hlt
        have hBi := hB _ hx
        obtain ⟨p1, p2⟩ := bank_plain (k1 _ hx)
        obtain ⟨q1, q2, q3⟩ := check_ok (bank_ok (k1 _ hx))
        have hsn : catB (l.take (i + 1)) = catB (l.take i) ++ (bankL (l.getD i b0)).1 := by rw [take_snoc (d := b0) hlt, catB_snoc]
        have hspl : catB l = catB (l.take i) ++ (bankL (l.getD i b0)).1 ++ catB (l.drop (i + 1)) := by
          conv => lhs; rw [← List.take_append_drop (i + 1) l]
          unfold catB
          rw [List.flatMap_append]
          exact congrArg (· ++ _) hsn
        have c1 := f11 (l.getD i b0) hBi
        obtain ⟨X, hX⟩ : ∃ X, (bankL (l.getD i b0)).1 = X := ⟨_, rfl⟩
        have hXl : X.length ≤ 1025 := by rw [← hX]; exact bank_len _
        have hX2 : X = locL (1024 * (l.getD i b0).num) :: bl false (l.getD i b0).ws := by rw [← hX, p1]
        have hX1 : 1 ≤ X.length := by rw [hX2]; simp
        have hbk : bankL (l.getD i b0) = (X, 0) := by rw [← hX]; exact Prod.ext rfl (k1 _ hx)
        rw [hbk] at c1
        rw [hX] at hsn hspl p2
        obtain ⟨P, hP⟩ : ∃ P, catB (l.take i) = P := ⟨_, rfl⟩
        rw [hP] at hsn hspl ⊢
        have hlen : (catB l).length = P.length + X.length + (catB (l.drop (i + 1))).length := by rw [hspl]; simp [Nat.add_assoc]
        refine ex_skipS (ex_sq (ex_bl (ex_wall ?_)))
        conv => whnf
        repeat (first | ((with_reducible first | apply ga | apply gb | apply gc | apply gd | apply ge | apply gf | apply gg | apply gh | apply gi | apply gj); conv => whnf) | (refine ⟨⟨rfl, rfl, nle rfl, nle rfl⟩, ?_⟩; conv => whnf) | (refine AD.plain rfl ?_; conv => whnf) | fail)
        refine ⟨⟨by omega, by omega, rfl⟩, ?_⟩
        conv => whnf
        repeat (first | ((with_reducible first | apply ga | apply gb | apply gc | apply gd | apply ge | apply gf | apply gg | apply gh | apply gi | apply gj); conv => whnf) | (refine ⟨⟨rfl, rfl, nle rfl, nle rfl⟩, ?_⟩; conv => whnf) | (refine AD.plain rfl ?_; conv => whnf) | fail)
        refine ⟨⟨by decide⟩, ?_⟩
        conv => whnf
        repeat (first | ((with_reducible first | apply ga | apply gb | apply gc | apply gd | apply ge | apply gf | apply gg | apply gh | apply gi | apply gj); conv => whnf) | (refine ⟨⟨rfl, rfl, nle rfl, nle rfl⟩, ?_⟩; conv => whnf) | (refine AD.plain rfl ?_; conv => whnf) | fail)
        refine CallK.drop [] c1 ⟨agg2 .same .same, trivial⟩ ?_
        conv => whnf
        repeat (first | ((with_reducible first | apply ga | apply gb | apply gc | apply gd | apply ge | apply gf | apply gg | apply gh | apply gi | apply gj); conv => whnf) | (refine ⟨⟨rfl, rfl, nle rfl, nle rfl⟩, ?_⟩; conv => whnf) | (refine AD.plain rfl ?_; conv => whnf) | fail)
        refine EXW.mk ?_
        repeat (refine ex_sq ?_)
        refine ex_drawn (by kernel_rfl) ?_
        repeat (first | ((with_reducible first | apply ga | apply gb | apply gc | apply gd | apply ge | apply gf | apply gg | apply gh | apply gi | apply gj); conv => whnf) | (refine ⟨⟨rfl, rfl, nle rfl, nle rfl⟩, ?_⟩; conv => whnf) | (refine AD.plain rfl ?_; conv => whnf) | fail)
        repeat (first | ((with_reducible first | apply ga | apply gb | apply gc | apply gd | apply ge | apply gf | apply gg | apply gh | apply gi | apply gj); conv => whnf) | (refine ⟨⟨rfl, rfl, nle rfl, nle rfl⟩, ?_⟩; conv => whnf) | (refine AD.plain rfl ?_; conv => whnf) | (refine AD.test rfl rfl rfl ⟨fun _ => ?_, fun h => absurd h (by simp <;> omega)⟩; conv => whnf) | fail)
        refine ⟨⟨by unfold inI64; dsimp only; omega⟩, ?_⟩
        conv => whnf
        repeat (first | ((with_reducible first | apply ga | apply gb | apply gc | apply gd | apply ge | apply gf | apply gg | apply gh | apply gi | apply gj); conv => whnf) | (refine ⟨⟨rfl, rfl, nle rfl, nle rfl⟩, ?_⟩; conv => whnf) | (refine AD.plain rfl ?_; conv => whnf) | fail)
        repeat (first | ((with_reducible first | apply ga | apply gb | apply gc | apply gd | apply ge | apply gf | apply gg | apply gh | apply gi | apply gj); conv => whnf) | (refine ⟨⟨rfl, rfl, nle rfl, nle rfl⟩, ?_⟩; conv => whnf) | (refine AD.plain rfl ?_; conv => whnf) | (refine AD.test rfl rfl rfl ⟨fun _ => ?_, fun h => absurd h (by simp <;> omega)⟩; conv => whnf) | fail)
        refine ⟨⟨by decide, by dsimp only; omega, rfl⟩, ?_⟩
        conv => whnf
        repeat (first | ((with_reducible first | apply ga | apply gb | apply gc | apply gd | apply ge | apply gf | apply gg | apply gh | apply gi | apply gj); conv => whnf) | (refine ⟨⟨rfl, rfl, nle rfl, nle rfl⟩, ?_⟩; conv => whnf) | (refine AD.plain rfl ?_; conv => whnf) | fail)
        repeat (first | ((with_reducible first | apply ga | apply gb | apply gc | apply gd | apply ge | apply gf | apply gg | apply gh | apply gi | apply gj); conv => whnf) | (refine ⟨⟨rfl, rfl, nle rfl, nle rfl⟩, ?_⟩; conv => whnf) | (refine AD.plain rfl ?_; conv => whnf) | (refine AD.test rfl rfl rfl ⟨fun _ => ?_, fun h => absurd h (by simp <;> omega)⟩; conv => whnf) | fail)
        refine ⟨⟨by decide⟩, ?_⟩
        conv => whnf
        repeat (first | ((with_reducible first | apply ga | apply gb | apply gc | apply gd | apply ge | apply gf | apply gg | apply gh | apply gi | apply gj); conv => whnf) | (refine ⟨⟨rfl, rfl, nle rfl, nle rfl⟩, ?_⟩; conv => whnf) | (refine AD.plain rfl ?_; conv => whnf) | fail)
        repeat (first | ((with_reducible first | apply ga | apply gb | apply gc | apply gd | apply ge | apply gf | apply gg | apply gh | apply gi | apply gj); conv => whnf) | (refine ⟨⟨rfl, rfl, nle rfl, nle rfl⟩, ?_⟩; conv => whnf) | (refine AD.plain rfl ?_; conv => whnf) | (refine AD.test rfl rfl rfl ⟨fun _ => ?_, fun h => absurd h (by simp <;> omega)⟩; conv => whnf) | fail)
        refine ⟨⟨by omega, by omega, rfl⟩, ?_⟩
        conv => whnf
        repeat (first | ((with_reducible first | apply ga | apply gb | apply gc | apply gd | apply ge | apply gf | apply gg | apply gh | apply gi | apply gj); conv => whnf) | (refine ⟨⟨rfl, rfl, nle rfl, nle rfl⟩, ?_⟩; conv => whnf) | (refine AD.plain rfl ?_; conv => whnf) | fail)
        repeat (first | ((with_reducible first | apply ga | apply gb | apply gc | apply gd | apply ge | apply gf | apply gg | apply gh | apply gi | apply gj); conv => whnf) | (refine ⟨⟨rfl, rfl, nle rfl, nle rfl⟩, ?_⟩; conv => whnf) | (refine AD.plain rfl ?_; conv => whnf) | (refine AD.test rfl rfl rfl ⟨fun _ => ?_, fun h => absurd h (by simp <;> omega)⟩; conv => whnf) | fail)
        refine ⟨⟨by decide⟩, ?_⟩
        conv => whnf
        repeat (first | ((with_reducible first | apply ga | apply gb | apply gc | apply gd | apply ge | apply gf | apply gg | apply gh | apply gi | apply gj); conv => whnf) | (refine ⟨⟨rfl, rfl, nle rfl, nle rfl⟩, ?_⟩; conv => whnf) | (refine AD.plain rfl ?_; conv => whnf) | fail)
        repeat (first | ((with_reducible first | apply ga | apply gb | apply gc | apply gd | apply ge | apply gf | apply gg | apply gh | apply gi | apply gj); conv => whnf) | (refine ⟨⟨rfl, rfl, nle rfl, nle rfl⟩, ?_⟩; conv => whnf) | (refine AD.plain rfl ?_; conv => whnf) | (refine AD.test rfl rfl rfl ⟨fun _ => ?_, fun h => absurd h (by simp <;> omega)⟩; conv => whnf) | fail)
        refine ⟨⟨by decide⟩, ?_⟩
        conv => whnf
        repeat (first | ((with_reducible first | apply ga | apply gb | apply gc | apply gd | apply ge | apply gf | apply gg | apply gh | apply gi | apply gj); conv => whnf) | (refine ⟨⟨rfl, rfl, nle rfl, nle rfl⟩, ?_⟩; conv => whnf) | (refine AD.plain rfl ?_; conv => whnf) | fail)
        repeat (first | ((with_reducible first | apply ga | apply gb | apply gc | apply gd | apply ge | apply gf | apply gg | apply gh | apply gi | apply gj); conv => whnf) | (refine ⟨⟨rfl, rfl, nle rfl, nle rfl⟩, ?_⟩; conv => whnf) | (refine AD.plain rfl ?_; conv => whnf) | (refine AD.test rfl rfl rfl ⟨fun _ => ?_, fun h => absurd h (by simp <;> omega)⟩; conv => whnf) | fail)
        refine ⟨⟨by unfold inI64; rw [Int.toNat_natCast]; omega⟩, ?_⟩
        conv => whnf
        repeat (first | ((with_reducible first | apply ga | apply gb | apply gc | apply gd | apply ge | apply gf | apply gg | apply gh | apply gi | apply gj); conv => whnf) | (refine ⟨⟨rfl, rfl, nle rfl, nle rfl⟩, ?_⟩; conv => whnf) | (refine AD.plain rfl ?_; conv => whnf) | fail)
        repeat (first | ((with_reducible first | apply ga | apply gb | apply gc | apply gd | apply ge | apply gf | apply gg | apply gh | apply gi | apply gj); conv => whnf) | (refine ⟨⟨rfl, rfl, nle rfl, nle rfl⟩, ?_⟩; conv => whnf) | (refine AD.plain rfl ?_; conv => whnf) | (refine AD.test rfl rfl rfl ⟨fun _ => ?_, fun h => absurd h (by simp <;> omega)⟩; conv => whnf) | fail)
        refine ⟨_, [], ⟨_, (f18 LOCs (1024 * (l.getD i b0).num)), ⟨.same, .same, trivial⟩, .inl rfl⟩, ?_⟩
        conv => whnf
        repeat (first | ((with_reducible first | apply ga | apply gb | apply gc | apply gd | apply ge | apply gf | apply gg | apply gh | apply gi | apply gj); conv => whnf) | (refine ⟨⟨rfl, rfl, nle rfl, nle rfl⟩, ?_⟩; conv => whnf) | (refine AD.plain rfl ?_; conv => whnf) | fail)
        have hX0 : X.getD 0 lz = opL LOCs (1024 * (l.getD i b0).num) := by rw [hX2]; rfl
        refine AD.test rfl rfl rfl ⟨fun _ => ?_, fun h => absurd h (by simp)⟩
        conv => whnf
        repeat (first | ((with_reducible first | apply ga | apply gb | apply gc | apply gd | apply ge | apply gf | apply gg | apply gh | apply gi | apply gj); conv => whnf) | (refine ⟨⟨rfl, rfl, nle rfl, nle rfl⟩, ?_⟩; conv => whnf) | (refine AD.plain rfl ?_; conv => whnf) | fail)
        refine AD.test rfl rfl rfl ⟨fun _ => ?_, fun h => absurd h (by rw [Int.toNat_zero]; dsimp only; rw [hX0]; simp)⟩
        conv => whnf
        repeat (first | ((with_reducible first | apply ga | apply gb | apply gc | apply gd | apply ge | apply gf | apply gg | apply gh | apply gi | apply gj); conv => whnf) | (refine ⟨⟨rfl, rfl, nle rfl, nle rfl⟩, ?_⟩; conv => whnf) | (refine AD.plain rfl ?_; conv => whnf) | fail)
        repeat (first | ((with_reducible first | apply ga | apply gb | apply gc | apply gd | apply ge | apply gf | apply gg | apply gh | apply gi | apply gj); conv => whnf) | (refine ⟨⟨rfl, rfl, nle rfl, nle rfl⟩, ?_⟩; conv => whnf) | (refine AD.plain rfl ?_; conv => whnf) | (refine AD.test rfl rfl rfl ⟨fun _ => ?_, fun h => absurd h (by simp <;> omega)⟩; conv => whnf) | fail)
        refine ⟨⟨by unfold inI64; dsimp only; omega⟩, ?_⟩
        conv => whnf
        repeat (first | ((with_reducible first | apply ga | apply gb | apply gc | apply gd | apply ge | apply gf | apply gg | apply gh | apply gi | apply gj); conv => whnf) | (refine ⟨⟨rfl, rfl, nle rfl, nle rfl⟩, ?_⟩; conv => whnf) | (refine AD.plain rfl ?_; conv => whnf) | fail)
        repeat (first | ((with_reducible first | apply ga | apply gb | apply gc | apply gd | apply ge | apply gf | apply gg | apply gh | apply gi | apply gj); conv => whnf) | (refine ⟨⟨rfl, rfl, nle rfl, nle rfl⟩, ?_⟩; conv => whnf) | (refine AD.plain rfl ?_; conv => whnf) | (refine AD.test rfl rfl rfl ⟨fun _ => ?_, fun h => absurd h (by simp <;> omega)⟩; conv => whnf) | fail)
        refine ⟨⟨by omega, by omega, by dsimp only; omega, rfl⟩, ?_⟩
        conv => whnf
        repeat (first | ((with_reducible first | apply ga | apply gb | apply gc | apply gd | apply ge | apply gf | apply gg | apply gh | apply gi | apply gj); conv => whnf) | (refine ⟨⟨rfl, rfl, nle rfl, nle rfl⟩, ?_⟩; conv => whnf) | (refine AD.plain rfl ?_; conv => whnf) | fail)
        repeat (first | ((with_reducible first | apply ga | apply gb | apply gc | apply gd | apply ge | apply gf | apply gg | apply gh | apply gi | apply gj); conv => whnf) | (refine ⟨⟨rfl, rfl, nle rfl, nle rfl⟩, ?_⟩; conv => whnf) | (refine AD.plain rfl ?_; conv => whnf) | (refine AD.test rfl rfl rfl ⟨fun _ => ?_, fun h => absurd h (by simp <;> omega)⟩; conv => whnf) | fail)
        have hpart : ∀ k, k < X.length → (catB l).getD (P.length + k) lz = X.getD k lz := by
          intro k hk
          rw [hspl, List.append_assoc, getD_right (by omega), show P.length + k - P.length = k by omega, getD_left hk]
        refine ⟨_, [], ⟨_, (tk30 X (by omega)), ⟨.same,(partLe (n := P.length) (by (try dsimp only); omega) (by (try dsimp only); omega) hpart), trivial⟩, .inl rfl⟩, ?_⟩
        conv => whnf
        repeat (first | ((with_reducible first | apply ga | apply gb | apply gc | apply gd | apply ge | apply gf | apply gg | apply gh | apply gi | apply gj); conv => whnf) | (refine ⟨⟨rfl, rfl, nle rfl, nle rfl⟩, ?_⟩; conv => whnf) | (refine AD.plain rfl ?_; conv => whnf) | fail)
        repeat (first | ((with_reducible first | apply ga | apply gb | apply gc | apply gd | apply ge | apply gf | apply gg | apply gh | apply gi | apply gj); conv => whnf) | (refine ⟨⟨rfl, rfl, nle rfl, nle rfl⟩, ?_⟩; conv => whnf) | (refine AD.plain rfl ?_; conv => whnf) | (refine AD.test rfl rfl rfl ⟨fun _ => ?_, fun h => absurd h (by simp <;> omega)⟩; conv => whnf) | fail)
        refine AD.nil ⟨by kernel_rfl, ?_⟩
        conv => whnf
        repeat (first | ((with_reducible first | apply ga | apply gb | apply gc | apply gd | apply ge | apply gf | apply gg | apply gh | apply gi | apply gj); conv => whnf) | (refine ⟨⟨rfl, rfl, nle rfl, nle rfl⟩, ?_⟩; conv => whnf) | (refine AD.plain rfl ?_; conv => whnf) | fail)
        refine ex_loop tab_ok mixed (fun j : Nat => j ≤ X.length) (fun j => mkSt 122 [(0, .pv (banksP l)), (3, .pv (linesP (catB l))), (5, i64 P.length), (6, i64 i), (7, .pv (linesP X)), (9, i64 j)] []) (fun j => X.length - j) 0 (Nat.zero_le _) (SubS.mk [] rfl ⟨⟨_, rfl, .same⟩, ⟨_, rfl, .same⟩, ⟨_, rfl, .same⟩, ⟨_, rfl, .same⟩, ⟨_, rfl, .same⟩, ⟨_, rfl, .same⟩, trivial⟩ trivial) ?_
        intro j hj
        conv => whnf
        repeat (first | ((with_reducible first | apply ga | apply gb | apply gc | apply gd | apply ge | apply gf | apply gg | apply gh | apply gi | apply gj); conv => whnf) | (refine ⟨⟨rfl, rfl, nle rfl, nle rfl⟩, ?_⟩; conv => whnf) | (refine AD.plain rfl ?_; conv => whnf) | fail)
        refine ⟨fun hd => ?_, fun hd => ?_⟩ <;> replace hd := nm hd <;> (try rw [Int.toNat_zero] at hd) <;> (try rw [Int.toNat_one] at hd)
        · have hjl : j < X.length := by omega
          have hm : X.getD j lz ∈ X := by rw [List.getD_eq_getElem?_getD, List.getElem?_eq_getElem hjl]; exact List.getElem_mem hjl
          obtain ⟨z1, z2, z3⟩ := p2 _ hm
          conv => whnf
          repeat (first | ((with_reducible first | apply ga | apply gb | apply gc | apply gd | apply ge | apply gf | apply gg | apply gh | apply gi | apply gj); conv => whnf) | (refine ⟨⟨rfl, rfl, nle rfl, nle rfl⟩, ?_⟩; conv => whnf) | (refine AD.plain rfl ?_; conv => whnf) | fail)
          refine ⟨⟨by omega, by omega, rfl⟩, ?_⟩
          conv => whnf
          repeat (first | ((with_reducible first | apply ga | apply gb | apply gc | apply gd | apply ge | apply gf | apply gg | apply gh | apply gi | apply gj); conv => whnf) | (refine ⟨⟨rfl, rfl, nle rfl, nle rfl⟩, ?_⟩; conv => whnf) | (refine AD.plain rfl ?_; conv => whnf) | fail)
          refine ⟨⟨by decide⟩, ?_⟩
          conv => whnf
          repeat (first | ((with_reducible first | apply ga | apply gb | apply gc | apply gd | apply ge | apply gf | apply gg | apply gh | apply gi | apply gj); conv => whnf) | (refine ⟨⟨rfl, rfl, nle rfl, nle rfl⟩, ?_⟩; conv => whnf) | (refine AD.plain rfl ?_; conv => whnf) | fail)
          refine ⟨⟨by decide⟩, ?_⟩
          conv => whnf
          repeat (first | ((with_reducible first | apply ga | apply gb | apply gc | apply gd | apply ge | apply gf | apply gg | apply gh | apply gi | apply gj); conv => whnf) | (refine ⟨⟨rfl, rfl, nle rfl, nle rfl⟩, ?_⟩; conv => whnf) | (refine AD.plain rfl ?_; conv => whnf) | fail)
          refine ⟨fun _ => ?_, fun h => absurd h (by rw [Int.toNat_natCast, z1]; simp)⟩
          conv => whnf
          repeat (first | ((with_reducible first | apply ga | apply gb | apply gc | apply gd | apply ge | apply gf | apply gg | apply gh | apply gi | apply gj); conv => whnf) | (refine ⟨⟨rfl, rfl, nle rfl, nle rfl⟩, ?_⟩; conv => whnf) | (refine AD.plain rfl ?_; conv => whnf) | fail)
          refine ⟨⟨by omega, by omega, rfl⟩, ?_⟩
          conv => whnf
          repeat (first | ((with_reducible first | apply ga | apply gb | apply gc | apply gd | apply ge | apply gf | apply gg | apply gh | apply gi | apply gj); conv => whnf) | (refine ⟨⟨rfl, rfl, nle rfl, nle rfl⟩, ?_⟩; conv => whnf) | (refine AD.plain rfl ?_; conv => whnf) | fail)
          refine ⟨⟨by decide⟩, ?_⟩
          conv => whnf
          repeat (first | ((with_reducible first | apply ga | apply gb | apply gc | apply gd | apply ge | apply gf | apply gg | apply gh | apply gi | apply gj); conv => whnf) | (refine ⟨⟨rfl, rfl, nle rfl, nle rfl⟩, ?_⟩; conv => whnf) | (refine AD.plain rfl ?_; conv => whnf) | fail)
          refine ⟨⟨by decide⟩, ?_⟩
          conv => whnf
          repeat (first | ((with_reducible first | apply ga | apply gb | apply gc | apply gd | apply ge | apply gf | apply gg | apply gh | apply gi | apply gj); conv => whnf) | (refine ⟨⟨rfl, rfl, nle rfl, nle rfl⟩, ?_⟩; conv => whnf) | (refine AD.plain rfl ?_; conv => whnf) | fail)
          refine ⟨fun _ => ?_, fun h => absurd h (by rw [Int.toNat_natCast]; exact fun h => z2 (eq_of_beq h))⟩
          conv => whnf
          repeat (first | ((with_reducible first | apply ga | apply gb | apply gc | apply gd | apply ge | apply gf | apply gg | apply gh | apply gi | apply gj); conv => whnf) | (refine ⟨⟨rfl, rfl, nle rfl, nle rfl⟩, ?_⟩; conv => whnf) | (refine AD.plain rfl ?_; conv => whnf) | fail)
          refine ⟨⟨by omega, by omega, rfl⟩, ?_⟩
          conv => whnf
          repeat (first | ((with_reducible first | apply ga | apply gb | apply gc | apply gd | apply ge | apply gf | apply gg | apply gh | apply gi | apply gj); conv => whnf) | (refine ⟨⟨rfl, rfl, nle rfl, nle rfl⟩, ?_⟩; conv => whnf) | (refine AD.plain rfl ?_; conv => whnf) | fail)
          refine ⟨⟨by decide⟩, ?_⟩
          conv => whnf
          repeat (first | ((with_reducible first | apply ga | apply gb | apply gc | apply gd | apply ge | apply gf | apply gg | apply gh | apply gi | apply gj); conv => whnf) | (refine ⟨⟨rfl, rfl, nle rfl, nle rfl⟩, ?_⟩; conv => whnf) | (refine AD.plain rfl ?_; conv => whnf) | fail)
          refine ⟨⟨by decide⟩, ?_⟩
          conv => whnf
          repeat (first | ((with_reducible first | apply ga | apply gb | apply gc | apply gd | apply ge | apply gf | apply gg | apply gh | apply gi | apply gj); conv => whnf) | (refine ⟨⟨rfl, rfl, nle rfl, nle rfl⟩, ?_⟩; conv => whnf) | (refine AD.plain rfl ?_; conv => whnf) | fail)
          refine ⟨⟨by decide⟩, ?_⟩
          conv => whnf
          repeat (first | ((with_reducible first | apply ga | apply gb | apply gc | apply gd | apply ge | apply gf | apply gg | apply gh | apply gi | apply gj); conv => whnf) | (refine ⟨⟨rfl, rfl, nle rfl, nle rfl⟩, ?_⟩; conv => whnf) | (refine AD.plain rfl ?_; conv => whnf) | fail)
          refine ⟨fun h => absurd h (by rw [Int.toNat_natCast]; exact fun h => z3 (eq_of_beq h)), fun _ => ?_⟩
          conv => whnf
          repeat (first | ((with_reducible first | apply ga | apply gb | apply gc | apply gd | apply ge | apply gf | apply gg | apply gh | apply gi | apply gj); conv => whnf) | (refine ⟨⟨rfl, rfl, nle rfl, nle rfl⟩, ?_⟩; conv => whnf) | (refine AD.plain rfl ?_; conv => whnf) | fail)
          refine ⟨⟨by unfold inI64; omega⟩, ?_⟩
          conv => whnf
          repeat (first | ((with_reducible first | apply ga | apply gb | apply gc | apply gd | apply ge | apply gf | apply gg | apply gh | apply gi | apply gj); conv => whnf) | (refine ⟨⟨rfl, rfl, nle rfl, nle rfl⟩, ?_⟩; conv => whnf) | (refine AD.plain rfl ?_; conv => whnf) | fail)
          exact ⟨j + 1, by omega, SubS.mk [] rfl ⟨⟨_, rfl, .same⟩, ⟨_, rfl, .same⟩, ⟨_, rfl, .same⟩, ⟨_, rfl, .same⟩, ⟨_, rfl, .same⟩, ⟨_, rfl, .same⟩, trivial⟩ trivial, by omega⟩
        · obtain rfl : j = X.length := by omega
          conv => whnf
          repeat (first | ((with_reducible first | apply ga | apply gb | apply gc | apply gd | apply ge | apply gf | apply gg | apply gh | apply gi | apply gj); conv => whnf) | (refine ⟨⟨rfl, rfl, nle rfl, nle rfl⟩, ?_⟩; conv => whnf) | (refine AD.plain rfl ?_; conv => whnf) | fail)
          refine ⟨⟨by unfold inI64; omega⟩, ?_⟩
          conv => whnf
          repeat (first | ((with_reducible first | apply ga | apply gb | apply gc | apply gd | apply ge | apply gf | apply gg | apply gh | apply gi | apply gj); conv => whnf) | (refine ⟨⟨rfl, rfl, nle rfl, nle rfl⟩, ?_⟩; conv => whnf) | (refine AD.plain rfl ?_; conv => whnf) | fail)
          refine ⟨⟨by unfold inI64; omega⟩, ?_⟩
          conv => whnf
          repeat (first | ((with_reducible first | apply ga | apply gb | apply gc | apply gd | apply ge | apply gf | apply gg | apply gh | apply gi | apply gj); conv => whnf) | (refine ⟨⟨rfl, rfl, nle rfl, nle rfl⟩, ?_⟩; conv => whnf) | (refine AD.plain rfl ?_; conv => whnf) | fail)
          exact ⟨i + 1, by omega, SubS.mk [] rfl ⟨⟨_, rfl, .same⟩, ⟨_, rfl, .same⟩, ⟨_, rfl, by rw [hsn, List.length_append]; exact .same⟩, ⟨_, rfl, .same⟩, trivial⟩ trivial, by omega⟩
      · obtain rfl : i = l.length := by omega
        rw [List.take_length]
        conv => whnf
        repeat (first | ((with_reducible first | apply ga | apply gb | apply gc | apply gd | apply ge | apply gf | apply gg | apply gh | apply gi | apply gj); conv => whnf) | (refine ⟨⟨rfl, rfl, nle rfl, nle rfl⟩, ?_⟩; conv => whnf) | (refine AD.plain rfl ?_; conv => whnf) | fail)
        refine ⟨fun _ => ?_, fun h => absurd h (by simp)⟩
        conv => whnf
        repeat (first | ((with_reducible first | apply ga | apply gb | apply gc | apply gd | apply ge | apply gf | apply gg | apply gh | apply gi | apply gj); conv => whnf) | (refine ⟨⟨rfl, rfl, nle rfl, nle rfl⟩, ?_⟩; conv => whnf) | (refine AD.plain rfl ?_; conv => whnf) | fail)
        repeat (first | ((with_reducible first | apply ga | apply gb | apply gc | apply gd | apply ge | apply gf | apply gg | apply gh | apply gi | apply gj); conv => whnf) | (refine ⟨⟨rfl, rfl, nle rfl, nle rfl⟩, ?_⟩; conv => whnf) | (refine AD.plain rfl ?_; conv => whnf) | (refine CallK.flat [] f10 trivial rfl ?_; conv => whnf) | (refine ⟨fun _ => ?_, fun h => absurd h (by simp <;> omega)⟩; conv => whnf) | fail)
        exact done_bool _ _ rfl rfl rfl
end Go.Proofs.YtolgdbekdkldjaaDoor

namespace Go.Proofs.YtolgdbekdkldjaaDoor
open Go Go.AM
attribute [local irreducible] AWP CallK PureCall SubS HeapCall
def nz (n : Nat) : List Nat := List.replicate n 0
def bk (i : Nat) : BankR := ⟨i, nz 1024⟩
def zl : Line := oneL 0 false
theorem bl_nz : ∀ n, bl false (nz n) = List.replicate n zl
  | 0 => rfl
  | 1 => by kernel_rfl
  | n + 2 => by
    have h := bl_nz (n + 1)
    have e : nz (n + 2) = 0 :: 0 :: nz n := rfl
    have e1 : nz (n + 1) = 0 :: nz n := rfl
    rw [e, bl, if_neg (by rintro ⟨_, h⟩; cases h), show isX (oneL (0 % 32768) false) = false by kernel_rfl, ← e1, h]
    rfl
theorem any_nz (n : Nat) : (nz n).any (fun w => decide (32767 < w)) = false := by
  rw [List.any_eq_false]
  intro x hx
  rw [List.eq_of_mem_replicate hx]
  decide
theorem nz_len (n : Nat) : (nz n).length = n := List.length_replicate ..
theorem check_bk {i : Nat} (h : i < 36) : checkB (bk i) = 0 := by
  unfold checkB
  rw [if_neg (by unfold bk; dsimp only; omega), if_neg (by unfold bk; dsimp only; rw [nz_len]; decide), if_neg (by unfold bk; dsimp only; rw [any_nz]; decide)]
theorem bank_bk {i : Nat} (h : i < 36) : bankL (bk i) = (locL (1024 * i) :: List.replicate 1024 zl, 0) := by
  unfold bankL
  rw [if_neg (by rw [check_bk h]; decide)]
  show (_ :: bl false (nz 1024), _) = _
  rw [bl_nz]; rfl
theorem srcM_app (A B : List Line) : srcM (A ++ B) = srcM A ++ srcM B := by unfold srcM; rw [List.flatMap_append]
theorem zl_len : (txt zl ++ [10]).length = 6 := by kernel_rfl
theorem src_rep : ∀ n, (srcM (List.replicate n zl)).length = 6 * n
  | 0 => rfl
  | n + 1 => by
    show (srcM ([zl] ++ List.replicate n zl)).length = _
    rw [srcM_app, List.length_append, src_rep n]
    have : (srcM [zl]).length = 6 := by unfold srcM; simp only [List.flatMap_cons, List.flatMap_nil, List.append_nil]; exact zl_len
    omega
def bks (n : Nat) : List BankR := (List.range n).map bk
theorem bks_succ (n : Nat) : bks (n + 1) = bks n ++ [bk n] := by unfold bks; rw [List.range_succ]; simp
theorem img_bk : ∀ (n s : Nat) (last : Int) (acc : List Line), last < s → s + n ≤ 36 → (imgF ((List.range' s n).map bk) last acc).2 = 0 ∧ (srcM acc).length + 6144 * n ≤ (srcM (imgF ((List.range' s n).map bk) last acc).1).length
  | 0, s, last, acc, _, _ => ⟨rfl, Nat.le_refl _⟩
  | n + 1, s, last, acc, h1, h2 => by
    have e := bank_bk (i := s) (by omega)
    rw [List.range'_succ, List.map_cons, imgF, e]
    rw [if_neg (by simp), if_neg (by show ¬ ((s : Int) ≤ last); omega)]
    obtain ⟨k1, k2⟩ := img_bk n (s + 1) (bk s).num (acc ++ (locL (1024 * s) :: List.replicate 1024 zl)) (by show (s : Int) < _; omega) (by omega)
    refine ⟨k1, Nat.le_trans ?_ k2⟩
    show (srcM acc).length + 6144 * (n + 1) ≤ (srcM (acc ++ ([locL (1024 * s)] ++ List.replicate 1024 zl))).length + 6144 * n
    rw [srcM_app, srcM_app, List.length_append, List.length_append, src_rep]
    omega
theorem src_bk : srcL (bks 20) = ([], 4) := by
  obtain ⟨k1, k2⟩ := img_bk 20 0 (-1) [] (by decide) (by decide)
  rw [← List.range_eq_range'] at k1 k2
  have e : imgL (bks 20) = imgF ((List.range 20).map bk) (-1) [] := rfl
  unfold srcL
  rw [e, if_neg (by rw [k1]; decide), if_pos]
  omega
def w7 : List Nat := [6, 20485, 28678, 28679, 6, 6, 6]
def l7 : List Line := [opL [76, 79, 67] 1024, opL [88, 73, 78, 68, 69, 88] 5, opL [77, 80] 6, opL [77, 65, 83, 75] 7, opL [82, 69, 65, 68] 6, ⟨[], [69, 88, 84, 69, 78, 68], az⟩]
theorem b1 : bankL ⟨1, w7⟩ = (l7, 0) := by kernel_rfl
theorem b2 : bankL ⟨36, []⟩ = ([], 3) := by kernel_rfl
theorem b3 : bankL ⟨0, nz 1025⟩ = ([], 4) := by kernel_rfl
theorem b4 : bankL ⟨0, [32768]⟩ = ([], 3) := by kernel_rfl
theorem b5 : imgL [⟨2, []⟩, ⟨1, []⟩] = ([], 8) := by kernel_rfl
theorem b6 : srcL [⟨-1, []⟩] = ([], 3) := by kernel_rfl
theorem b7 : oneL (6 % 32768) false = ⟨[], [69, 88, 84, 69, 78, 68], az⟩ := by kernel_rfl
theorem nz_get (n i : Nat) : (nz n).getD i 0 = 0 := by
  rw [List.getD_eq_getElem?_getD]
  by_cases h : i < (nz n).length
  · rw [List.getElem?_eq_getElem h]; exact List.getElem_replicate ..
  · rw [List.getElem?_eq_none (by omega)]; rfl
theorem bk_get (n i : Nat) : (bk n).ws.getD i 0 = 0 := nz_get 1024 i
theorem bk_len (n : Nat) : (bk n).ws.length = 1024 := nz_len 1024
theorem nz_B (n : Nat) : ∀ w ∈ nz n, w < 65536 := fun w hw => by rw [List.eq_of_mem_replicate hw]; decide
theorem bk_B {n : Nat} (h : n ≤ 36) : BankB (bk n) := ⟨by unfold inI64 bk; dsimp only; omega, by show (nz 1024).length < _; rw [nz_len]; decide, nz_B _⟩
theorem nil_B {k : Int} (h : inI64 k) : BankB ⟨k, []⟩ := ⟨h, by show 0 < 2 ^ 46; decide, fun _ h => by cases h⟩
theorem bks_len (n : Nat) : (bks n).length = n := by unfold bks; simp
theorem bks_B : ∀ b ∈ bks 20, BankB b := fun b hb => by
  obtain ⟨i, hi, rfl⟩ := List.mem_map.mp hb
  exact bk_B (by have := List.mem_range.mp hi; omega)
set_option maxHeartbeats 1000000 in
set_option maxRecDepth 100000 in
theorem f7 : PureCall Tryd.prog 7 [] (bb true) := by
  have c1 := f11 ⟨1, w7⟩ ⟨by unfold inI64; decide, by decide, by decide⟩
  have c2 := f11 ⟨36, []⟩ (nil_B (by unfold inI64; decide))
  have c3 := f11 ⟨0, nz 1025⟩ ⟨by unfold inI64; decide, by dsimp only; rw [nz_len]; decide, nz_B _⟩
  have c4 := f11 ⟨0, [32768]⟩ ⟨by unfold inI64; decide, by decide, by decide⟩
  have c5 := f14 [⟨2, []⟩, ⟨1, []⟩] (by decide) (fun b hb => by
    rcases List.mem_cons.mp hb with rfl | hb
    · exact nil_B (by unfold inI64; decide)
    · rw [List.mem_singleton] at hb; subst hb; exact nil_B (by unfold inI64; decide))
  have c6 := f16 [⟨-1, []⟩] (by decide) (fun b hb => by rw [List.mem_singleton] at hb; subst hb; exact nil_B (by unfold inI64; decide))
  have c7 := f16 (bks 20) (by rw [bks_len]; decide) bks_B
  have c8 := f8 6 false (by decide)
  rw [b1] at c1
  rw [b2] at c2
  rw [b3] at c3
  rw [b4] at c4
  rw [b5] at c5
  rw [b6] at c6
  rw [src_bk] at c7
  rw [b7] at c8
  refine PureCall.run tab_ok mixed (by kernel_rfl) Tryd.func7 rfl rfl rfl ?_
  conv => whnf
  repeat (first | ((with_reducible first | apply ga | apply gb | apply gc | apply gd | apply ge | apply gf | apply gg | apply gh | apply gi | apply gj); conv => whnf) | (refine ⟨⟨rfl, rfl, nle rfl, nle rfl⟩, ?_⟩; conv => whnf) | (refine AD.plain rfl ?_; conv => whnf) | fail)
  refine CallK.drop [19] c1 ⟨agg2 .same (VLe.frzO (g := 0) rfl rfl (CellsA.row (cellsW fun i hi => ?_) rfl rfl rfl) rfl), trivial⟩ ?_
  · match i, hi with
    | 0, _ => exact .same
    | 1, _ => exact .same
    | 2, _ => exact .same
    | 3, _ => exact .same
    | 4, _ => exact .same
    | 5, _ => exact .same
    | 6, _ => exact .same
  conv => whnf
  repeat (first | ((with_reducible first | apply ga | apply gb | apply gc | apply gd | apply ge | apply gf | apply gg | apply gh | apply gi | apply gj); conv => whnf) | (refine ⟨⟨rfl, rfl, nle rfl, nle rfl⟩, ?_⟩; conv => whnf) | (refine AD.plain rfl ?_; conv => whnf) | fail)
  repeat (first | ((with_reducible first | apply ga | apply gb | apply gc | apply gd | apply ge | apply gf | apply gg | apply gh | apply gi | apply gj); conv => whnf) | (refine ⟨⟨rfl, rfl, nle rfl, nle rfl⟩, ?_⟩; conv => whnf) | (refine AD.plain rfl ?_; conv => whnf) | (refine CallK.flat [] (f18 [76, 79, 67] 1024) ⟨.same, .same, trivial⟩ rfl ?_; conv => whnf) | (refine CallK.flat [] (f18 [88, 73, 78, 68, 69, 88] 5) ⟨.same, .same, trivial⟩ rfl ?_; conv => whnf) | (refine CallK.flat [] (f18 [77, 80] 6) ⟨.same, .same, trivial⟩ rfl ?_; conv => whnf) | (refine CallK.flat [] (f18 [77, 65, 83, 75] 7) ⟨.same, .same, trivial⟩ rfl ?_; conv => whnf) | (refine CallK.flat [] (f18 [82, 69, 65, 68] 6) ⟨.same, .same, trivial⟩ rfl ?_; conv => whnf) | (refine ⟨fun _ => ?_, fun h => absurd h (by decide +kernel)⟩; conv => whnf) | (refine ⟨fun h => absurd h (by decide +kernel), fun _ => ?_⟩; conv => whnf) | fail)
  refine CallK.flat [34] (tk30 l7 (by decide)) ⟨VLe.seqA, VLe.frzO (g := 0) rfl rfl (CellsA.row (fun i j hi hj => ?_) rfl rfl rfl) rfl, trivial⟩ rfl ?_
  · match i, hi, j, hj with
    | 0, _, 0, _ => exact .same
    | 0, _, 1, _ => exact .same
    | 0, _, 2, _ => exact .same
    | 0, _, 3, _ => exact .same
    | 0, _, 4, _ => exact .same
    | 1, _, 0, _ => exact .same
    | 1, _, 1, _ => exact .same
    | 1, _, 2, _ => exact .same
    | 1, _, 3, _ => exact .same
    | 1, _, 4, _ => exact .same
    | 2, _, 0, _ => exact .same
    | 2, _, 1, _ => exact .same
    | 2, _, 2, _ => exact .same
    | 2, _, 3, _ => exact .same
    | 2, _, 4, _ => exact .same
    | 3, _, 0, _ => exact .same
    | 3, _, 1, _ => exact .same
    | 3, _, 2, _ => exact .same
    | 3, _, 3, _ => exact .same
    | 3, _, 4, _ => exact .same
    | 4, _, 0, _ => exact .same
    | 4, _, 1, _ => exact .same
    | 4, _, 2, _ => exact .same
    | 4, _, 3, _ => exact .same
    | 4, _, 4, _ => exact .same
    | 5, _, 0, _ => exact .same
    | 5, _, 1, _ => exact .same
    | 5, _, 2, _ => exact .same
    | 5, _, 3, _ => exact .same
    | 5, _, 4, _ => exact .same
    | i + 6, h, _, _ => exact absurd (show i + 6 < 6 from h) (by omega)
    | _, _, j + 5, h => exact absurd (show j + 5 < 5 from h) (by omega)
  conv => whnf
  repeat (first | ((with_reducible first | apply ga | apply gb | apply gc | apply gd | apply ge | apply gf | apply gg | apply gh | apply gi | apply gj); conv => whnf) | (refine ⟨⟨rfl, rfl, nle rfl, nle rfl⟩, ?_⟩; conv => whnf) | (refine AD.plain rfl ?_; conv => whnf) | fail)
  refine CallK.drop [] c2 ⟨agg2 .same .nilA, trivial⟩ ?_
  conv => whnf
  repeat (first | ((with_reducible first | apply ga | apply gb | apply gc | apply gd | apply ge | apply gf | apply gg | apply gh | apply gi | apply gj); conv => whnf) | (refine ⟨⟨rfl, rfl, nle rfl, nle rfl⟩, ?_⟩; conv => whnf) | (refine AD.plain rfl ?_; conv => whnf) | fail)
  refine ⟨⟨by decide⟩, ?_⟩
  conv => whnf
  repeat (first | ((with_reducible first | apply ga | apply gb | apply gc | apply gd | apply ge | apply gf | apply gg | apply gh | apply gi | apply gj); conv => whnf) | (refine ⟨⟨rfl, rfl, nle rfl, nle rfl⟩, ?_⟩; conv => whnf) | (refine AD.plain rfl ?_; conv => whnf) | fail)
  refine CallK.drop [43] c3 ⟨agg2 .same (VLe.frzO (g := 0) rfl rfl (CellsA.row (cellsW fun i hi => by rw [nz_get]; exact .same) rfl rfl (by rw [nz_len]; rfl)) (by rw [nz_len]; rfl)), trivial⟩ ?_
  conv => whnf
  repeat (first | ((with_reducible first | apply ga | apply gb | apply gc | apply gd | apply ge | apply gf | apply gg | apply gh | apply gi | apply gj); conv => whnf) | (refine ⟨⟨rfl, rfl, nle rfl, nle rfl⟩, ?_⟩; conv => whnf) | (refine AD.plain rfl ?_; conv => whnf) | fail)
  refine CallK.drop [49] c4 ⟨agg2 .same (VLe.frzO (g := 0) rfl rfl (CellsA.row (cellsW fun i hi => ?_) rfl rfl rfl) rfl), trivial⟩ ?_
  · match i, hi with
    | 0, _ => exact .same
  conv => whnf
  repeat (first | ((with_reducible first | apply ga | apply gb | apply gc | apply gd | apply ge | apply gf | apply gg | apply gh | apply gi | apply gj); conv => whnf) | (refine ⟨⟨rfl, rfl, nle rfl, nle rfl⟩, ?_⟩; conv => whnf) | (refine AD.plain rfl ?_; conv => whnf) | fail)
  refine CallK.drop [57] c5 ⟨VLe.frzO (g := 0) rfl rfl (CellsA.row (fun i j hi hj => ?_) rfl rfl rfl) rfl, trivial⟩ ?_
  · match i, hi, j, hj with
    | 0, _, 0, _ => exact .same
    | 0, _, 1, _ => exact .nilA
    | 1, _, 0, _ => exact .same
    | 1, _, 1, _ => exact .nilA
    | i + 2, h, _, _ => exact absurd (show i + 2 < 2 from h) (by omega)
    | _, _, j + 2, h => exact absurd (show j + 2 < 2 from h) (by omega)
  conv => whnf
  repeat (first | ((with_reducible first | apply ga | apply gb | apply gc | apply gd | apply ge | apply gf | apply gg | apply gh | apply gi | apply gj); conv => whnf) | (refine ⟨⟨rfl, rfl, nle rfl, nle rfl⟩, ?_⟩; conv => whnf) | (refine AD.plain rfl ?_; conv => whnf) | fail)
  refine CallK.drop [63] c6 ⟨VLe.frzO (g := 0) rfl rfl (CellsA.row (CellsA.one fun j hj => ?_) rfl rfl rfl) rfl, trivial⟩ ?_
  · match j, hj with
    | 0, _ => exact .same
    | 1, _ => exact .nilA
  conv => whnf
  repeat (first | ((with_reducible first | apply ga | apply gb | apply gc | apply gd | apply ge | apply gf | apply gg | apply gh | apply gi | apply gj); conv => whnf) | (refine ⟨⟨rfl, rfl, nle rfl, nle rfl⟩, ?_⟩; conv => whnf) | (refine AD.plain rfl ?_; conv => whnf) | fail)
  refine ex_loop tab_ok mixed (fun x : Nat × List BankR × Nat => x.1 ≤ 20 ∧ x.2.1 = bks x.1) (fun x => mkSt 115 [(3, bb true), (5, i64 3), (7, i64 4), (9, i64 3), (11, i64 8), (13, i64 3), (14, .row 1014 x.2.2 2 0 x.2.1.length), (15, i64 x.1)] [(1014, rowA 33 2 BankR.p b0 x.2.2 x.2.1)]) (fun x => 20 - x.1) (0, [], 0) ⟨by decide, rfl⟩ (SubS.mkN [] [] rfl rfl rfl ⟨⟨_, rfl, .same⟩, ⟨_, rfl, .same⟩, ⟨_, rfl, .same⟩, ⟨_, rfl, .same⟩, ⟨_, rfl, .same⟩, ⟨_, rfl, .same⟩, ⟨_, rfl, .void _ _ _⟩, ⟨_, rfl, .same⟩, trivial⟩ ⟨.inr ⟨rfl, rfl⟩, trivial⟩) ?_
  rintro ⟨n, L, g⟩ ⟨hn, hL⟩
  dsimp only at hn hL ⊢
  have hLl : L.length = n := by rw [hL, bks_len]
  conv => whnf
  repeat (first | ((with_reducible first | apply ga | apply gb | apply gc | apply gd | apply ge | apply gf | apply gg | apply gh | apply gi | apply gj); conv => whnf) | (refine ⟨⟨rfl, rfl, nle rfl, nle rfl⟩, ?_⟩; conv => whnf) | (refine AD.plain rfl ?_; conv => whnf) | fail)
  refine ⟨fun hc => ?_, fun hc => ?_⟩ <;> replace hc := nm hc <;> (try rw [Int.toNat_zero] at hc) <;> (try rw [Int.toNat_one] at hc)
  · have hlt : n < 20 := by omega
    conv => whnf
    repeat (first | ((with_reducible first | apply ga | apply gb | apply gc | apply gd | apply ge | apply gf | apply gg | apply gh | apply gi | apply gj); conv => whnf) | (refine ⟨⟨rfl, rfl, nle rfl, nle rfl⟩, ?_⟩; conv => whnf) | (refine AD.plain rfl ?_; conv => whnf) | fail)
    refine ⟨⟨by decide⟩, ?_⟩
    conv => whnf
    repeat (first | ((with_reducible first | apply ga | apply gb | apply gc | apply gd | apply ge | apply gf | apply gg | apply gh | apply gi | apply gj); conv => whnf) | (refine ⟨⟨rfl, rfl, nle rfl, nle rfl⟩, ?_⟩; conv => whnf) | (refine AD.plain rfl ?_; conv => whnf) | fail)
    refine ⟨⟨⟨rfl, rfl, rfl, nle rfl⟩, rfl, rfl, rfl, rfl, rfl, rfl, show (L.length + 1) * 32 ≤ 140737488355328 by omega⟩, ?_⟩
    conv => whnf
    repeat (first | ((with_reducible first | apply ga | apply gb | apply gc | apply gd | apply ge | apply gf | apply gg | apply gh | apply gi | apply gj); conv => whnf) | (refine ⟨⟨rfl, rfl, nle rfl, nle rfl⟩, ?_⟩; conv => whnf) | (refine AD.plain rfl ?_; conv => whnf) | fail)
    refine ⟨⟨by unfold inI64; omega⟩, ?_⟩
    conv => whnf
    repeat (first | ((with_reducible first | apply ga | apply gb | apply gc | apply gd | apply ge | apply gf | apply gg | apply gh | apply gi | apply gj); conv => whnf) | (refine ⟨⟨rfl, rfl, nle rfl, nle rfl⟩, ?_⟩; conv => whnf) | (refine AD.plain rfl ?_; conv => whnf) | fail)
    refine ⟨(n + 1, L ++ [bk n], g + 1), ⟨hlt, by dsimp only; rw [bks_succ, hL]⟩, SubS.mkN [73] [(1014, 1014)] rfl rfl rfl ⟨⟨_, rfl, .same⟩, ⟨_, rfl, .same⟩, ⟨_, rfl, .same⟩, ⟨_, rfl, .same⟩, ⟨_, rfl, .same⟩, ⟨_, rfl, .same⟩, ⟨_, rfl, .row _ _ _ _ _ _ _ _ _ rfl rfl rfl (by simp)⟩, ⟨_, rfl, .same⟩, trivial⟩ ⟨.inl ⟨_, _, rfl, rfl, rfl, OLe.snocA rfl rfl rfl rfl rfl fun j hj => ?_⟩, trivial⟩, by dsimp only; omega⟩
    match j, hj with
    | 0, _ => exact .same
    | 1, _ => exact VLe.frzO (g := 0) rfl rfl (CellsA.row (cellsW fun i hi => by rw [bk_get]; exact .same) rfl rfl (by rw [bk_len]; rfl)) (by rw [bk_len]; rfl)
  · obtain rfl : n = 20 := by omega
    subst hL
    conv => whnf
    repeat (first | ((with_reducible first | apply ga | apply gb | apply gc | apply gd | apply ge | apply gf | apply gg | apply gh | apply gi | apply gj); conv => whnf) | (refine ⟨⟨rfl, rfl, nle rfl, nle rfl⟩, ?_⟩; conv => whnf) | (refine AD.plain rfl ?_; conv => whnf) | fail)
    refine CallK.drop [1014] c7 ⟨VLe.frzA rfl rfl rfl, trivial⟩ ?_
    conv => whnf
    repeat (first | ((with_reducible first | apply ga | apply gb | apply gc | apply gd | apply ge | apply gf | apply gg | apply gh | apply gi | apply gj); conv => whnf) | (refine ⟨⟨rfl, rfl, nle rfl, nle rfl⟩, ?_⟩; conv => whnf) | (refine AD.plain rfl ?_; conv => whnf) | fail)
    repeat (first | ((with_reducible first | apply ga | apply gb | apply gc | apply gd | apply ge | apply gf | apply gg | apply gh | apply gi | apply gj); conv => whnf) | (refine ⟨⟨rfl, rfl, nle rfl, nle rfl⟩, ?_⟩; conv => whnf) | (refine AD.plain rfl ?_; conv => whnf) | (refine CallK.flat [] f10 trivial rfl ?_; conv => whnf) | (refine CallK.flat [] c8 ⟨.same, .same, trivial⟩ rfl ?_; conv => whnf) | (refine ⟨fun _ => ?_, fun h => absurd h (by decide +kernel)⟩; conv => whnf) | (refine ⟨fun h => absurd h (by decide +kernel), fun _ => ?_⟩; conv => whnf) | fail)
    exact done_bool _ _ rfl rfl rfl
end Go.Proofs.YtolgdbekdkldjaaDoor
