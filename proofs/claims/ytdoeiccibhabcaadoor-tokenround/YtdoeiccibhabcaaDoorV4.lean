/- Part of the proof: what the functions that the law calls compute (4). -/
import Derived.Test.YtdoeiccibhabcaaDoorV3
namespace Go.Proofs.YtdoeiccibhabcaaDoor
open Go Go.AM
attribute [local irreducible] AWP CallK PureCall SubS HeapCall
theorem val_app (base : Int) : ∀ (s t : List UInt8) (n : Int), val base n (s ++ t) = (val base n s).bind fun m => val base m t
  | [], t, n => rfl
  | c :: s, t, n => by
    rw [List.cons_append, val, val]
    split
    · exact val_app base s t _
    · rfl
theorem dig_toNat {u : Nat} (h : u < 10) : (UInt8.ofNat (48 + u)).toNat = 48 + u := by
  rw [UInt8.toNat_ofNat']; omega
/-- The numeral's digits read as the number, held at 65536. -/
theorem val_dec (u : Nat) : val 10 0 (Lib.decDigits u) = some (min (u : Int) 65536) := by
  induction u using Nat.strongRecOn with
  | ind u ih =>
    by_cases h : u < 10
    · rw [Lib.decDigits_one h, val, val, dig_toNat h, if_pos (by omega)]
      congr 1; omega
    · rw [Lib.decDigits, dif_neg h, val_app, ih (u / 10) (by omega), Option.bind_some, val, val, dig_toNat (by omega), if_pos (by omega)]
      congr 1; omega
theorem dec_pos (u : Nat) : Lib.decDigits u ≠ [] := by
  intro h
  have := Lib.decDigits_length u
  rw [h] at this
  have := Lib.nDigits_pos u
  simp at *; omega
/-- The first digit of a number above 0 is none. -/
theorem dec_head (u : Nat) (hu : 0 < u) : ∃ d r, Lib.decDigits u = d :: r ∧ 49 ≤ d.toNat ∧ d.toNat ≤ 57 := by
  induction u using Nat.strongRecOn with
  | ind u ih =>
    by_cases h : u < 10
    · exact ⟨_, [], Lib.decDigits_one h, by rw [dig_toNat h]; omega, by rw [dig_toNat h]; omega⟩
    · obtain ⟨d, r, h1, h2, h3⟩ := ih (u / 10) (by omega) (by omega)
      refine ⟨d, r ++ [UInt8.ofNat (48 + u % 10)], ?_, h2, h3⟩
      rw [Lib.decDigits, dif_neg h, h1]; rfl
theorem dec_digit (u : Nat) : ∀ c ∈ Lib.decDigits u, 48 ≤ c.toNat ∧ c.toNat ≤ 57 := by
  induction u using Nat.strongRecOn with
  | ind u ih =>
    by_cases h : u < 10
    · intro c hc
      rw [Lib.decDigits_one h, List.mem_singleton] at hc
      rw [hc, dig_toNat h]; omega
    · intro c hc
      rw [Lib.decDigits, dif_neg h] at hc
      rcases List.mem_append.mp hc with hc | hc
      · exact ih (u / 10) (by omega) c hc
      · rw [List.mem_singleton] at hc
        rw [hc, dig_toNat (by omega)]; omega
theorem numV_dec (u : Nat) : numV (Lib.decDigits u) = some (min (u : Int) 65536) := by
  rw [numV_eq, show valN 10 (Lib.decDigits u) = some (min (u : Int) 65536) by
    unfold valN; rw [if_neg (by simpa using dec_pos u)]; exact val_dec u]
  rcases Nat.eq_zero_or_pos u with rfl | hu
  · rw [Lib.decDigits_one (by omega)]; rfl
  · obtain ⟨d, r, h1, h2, h3⟩ := dec_head u hu
    have h48 : ((((Lib.decDigits u).getD 0 0).toNat : Int) == 48) = false := by rw [h1]; simp; omega
    rw [h48, Bool.and_false]; rfl
end Go.Proofs.YtdoeiccibhabcaaDoor

namespace Go.Proofs.YtdoeiccibhabcaaDoor
open Go Go.AM
attribute [local irreducible] AWP CallK PureCall SubS HeapCall
theorem num_dec (u : Nat) (hu : u ≤ 65535) : num (Lib.decDigits u) = ((u : Int), 0) := by
  have e2 : [45].isPrefixOf (Lib.decDigits u) = false := by
    cases hd : Lib.decDigits u with
    | nil => rfl
    | cons d r =>
      have h := dec_digit u d (by rw [hd]; simp)
      have : ¬ (45 : UInt8) = d := fun e => by subst e; revert h; decide
      simp [List.isPrefixOf, this]
  have e1 : cutP [45] (Lib.decDigits u) = Lib.decDigits u := by unfold cutP; rw [e2]; rfl
  unfold num
  rw [e1, e2, numV_dec]
  unfold numR
  simp only [show min (u : Int) 65536 = u by omega, Bool.false_and, Bool.false_eq_true, if_false, if_neg (show ¬ 65535 < (u : Int) by omega)]
theorem itoa_negd (u : Nat) (hu : 0 < u) : Lib.itoa (-(u : Int)) = 45 :: Lib.decDigits u := by
  rw [Lib.itoa_neg u (by omega)]
theorem num_neg (u : Nat) (h0 : 0 < u) (hu : u ≤ 65535) : num (45 :: Lib.decDigits u) = (-(u : Int), 0) := by
  have e1 : cutP [45] (45 :: Lib.decDigits u) = Lib.decDigits u := by simp [cutP]
  have e2 : [45].isPrefixOf (45 :: Lib.decDigits u) = true := by simp
  unfold num
  rw [e1, e2, numV_dec]
  have e3 : ((u : Int) == 0) = false := by simp; omega
  unfold numR
  simp only [show min (u : Int) 65536 = u by omega, e3, Bool.and_false, Bool.false_eq_true, if_false, if_neg (show ¬ 65535 < (u : Int) by omega), if_true]
theorem num_itoa (n : Int) (h : within n = true) : num (Lib.itoa n) = (n, 0) := by
  have hw : -65535 ≤ n ∧ n ≤ 65535 := by simpa [within] using h
  by_cases hn : n < 0
  · obtain ⟨u, rfl⟩ : ∃ u : Nat, n = -(u : Int) := ⟨n.natAbs, by omega⟩
    rw [itoa_negd u (by omega), num_neg u (by omega) (by omega)]
  · obtain ⟨u, rfl⟩ : ∃ u : Nat, n = u := ⟨n.toNat, by omega⟩
    rw [Lib.itoa_nonneg, num_dec u (by omega)]
theorem tw_all {p : UInt8 → Bool} {s : List UInt8} (h : ∀ c ∈ s, p c = true) : s.takeWhile p = s := by
  have := List.takeWhile_append_of_pos (l₂ := []) h
  simpa using this
theorem tw_mem {p : UInt8 → Bool} : ∀ {s : List UInt8} {c : UInt8}, c ∈ s.takeWhile p → p c = true
  | [], c, h => by simp at h
  | d :: s, c, h => by
    cases hp : p d with
    | false => simp [hp] at h
    | true =>
      simp only [List.takeWhile_cons, hp, if_true] at h
      rcases List.mem_cons.mp h with rfl | h
      · exact hp
      · exact tw_mem h
/-- Neither a blank nor the mark of a comment. -/
def okc (c : UInt8) : Prop := blank c = false ∧ c ≠ 35 ∧ c ≠ 10
theorem inner_ok {c : UInt8} (h : inner c = true) : okc c := by
  constructor
  · unfold inner letter digit at h
    unfold blank
    simp only [Bool.or_eq_true, Bool.and_eq_true, decide_eq_true_eq, beq_iff_eq] at h
    simp only [Bool.or_eq_false_iff, beq_eq_false_iff_ne]
    omega
  · exact ⟨fun e => by subst e; revert h; decide, fun e => by subst e; revert h; decide⟩
theorem digit_ok {c : UInt8} (h : 48 ≤ c.toNat ∧ c.toNat ≤ 57) : okc c := by
  constructor
  · unfold blank
    simp only [Bool.or_eq_false_iff, beq_eq_false_iff_ne]
    omega
  · exact ⟨fun e => by subst e; revert h; decide, fun e => by subst e; revert h; decide⟩
theorem itoa_ok (n : Int) : ∀ c ∈ Lib.itoa n, okc c := by
  intro c hc
  by_cases hn : n < 0
  · obtain ⟨u, rfl⟩ : ∃ u : Nat, n = -(u : Int) := ⟨n.natAbs, by omega⟩
    rw [itoa_negd u (by omega)] at hc
    rcases List.mem_cons.mp hc with rfl | hc
    · exact ⟨rfl, by decide, by decide⟩
    · exact digit_ok (dec_digit u c hc)
  · obtain ⟨u, rfl⟩ : ∃ u : Nat, n = u := ⟨n.toNat, by omega⟩
    rw [Lib.itoa_nonneg] at hc
    exact digit_ok (dec_digit u c hc)
theorem name_all {s : List UInt8} (h : isName s = true) : (∀ c ∈ s, inner c = true) ∧ 1 ≤ s.length ∧ s.length ≤ 8 ∧ letter (s.getD 0 0) = true := by
  unfold isName at h
  simp only [Bool.and_eq_true, decide_eq_true_eq, beq_iff_eq] at h
  obtain ⟨⟨⟨h1, h2⟩, h3⟩, h4⟩ := h
  refine ⟨?_, by omega, by omega, h3⟩
  have : s.takeWhile inner = s := (List.takeWhile_prefix inner).eq_of_length (by unfold nameLen at h4; omega)
  intro c hc
  rw [← this] at hc
  exact tw_mem hc
theorem name_of {s : List UInt8} (h1 : ∀ c ∈ s, inner c = true) (h2 : 1 ≤ s.length) (h3 : s.length ≤ 8) (h4 : letter (s.getD 0 0) = true) : isName s = true := by
  unfold isName nameLen
  rw [h4, tw_all h1, decide_eq_true (by omega), decide_eq_true (by omega)]
  simp
theorem nameLen_all {s : List UInt8} (h : ∀ c ∈ s, inner c = true) : nameLen s = s.length := by
  unfold nameLen; rw [tw_all h]
theorem nameLen_app {s r : List UInt8} {c : UInt8} (h : ∀ c ∈ s, inner c = true) (hc : inner c = false) : nameLen (s ++ c :: r) = s.length := by
  unfold nameLen; rw [List.takeWhile_append_of_pos h]; simp [hc]
theorem getD_app0 {s r : List UInt8} (h : 1 ≤ s.length) : (s ++ r).getD 0 0 = s.getD 0 0 := by
  cases s with
  | nil => simp at h
  | cons _ _ => rfl
def mayA (a : Arg) : Bool := if a.k = 0 then a.nm == [] && a.v == 0 else if a.k = 1 then a.nm == [] && within a.v else if a.k = 2 then isName a.nm && within a.v else false
/-- An operand, as it is printed. -/
def argS (a : Arg) : List UInt8 := if a.k = 1 then Lib.itoa a.v else a.nm ++ (if 0 < a.v then [43] else []) ++ (if a.v = 0 then [] else Lib.itoa a.v)
theorem itoa_head (v : Int) : Lib.itoa v ≠ [] ∧ letter ((Lib.itoa v).getD 0 0) = false := by
  have key : ∀ c : UInt8, okc c → (48 ≤ c.toNat ∧ c.toNat ≤ 57) ∨ c = 45 → letter c = false := by
    intro c _ h
    rcases h with h | rfl
    · unfold letter
      simp only [Bool.and_eq_false_iff, decide_eq_false_iff_not]
      omega
    · rfl
  by_cases hn : v < 0
  · obtain ⟨u, rfl⟩ : ∃ u : Nat, v = -(u : Int) := ⟨v.natAbs, by omega⟩
    rw [itoa_negd u (by omega)]
    exact ⟨by simp, rfl⟩
  · obtain ⟨u, rfl⟩ : ∃ u : Nat, v = u := ⟨v.toNat, by omega⟩
    rw [Lib.itoa_nonneg]
    refine ⟨dec_pos u, ?_⟩
    cases hd : Lib.decDigits u with
    | nil => rfl
    | cons d r =>
      have h := dec_digit u d (by rw [hd]; simp)
      exact key d (digit_ok h) (.inl h)
theorem opnd_sym {nm r : List UInt8} {c : UInt8} (hn : isName nm = true) (hc : c = 43 ∨ c = 45) (hr : [45].isPrefixOf r = false) (n : Int) (hv : num r = (n, 0)) :
    opnd (nm ++ c :: r) = (⟨2, nm, if c = 45 then -n else n⟩, 0, 0) := by
  obtain ⟨h1, h2, h3, h4⟩ := name_all hn
  have hi : inner c = false := by rcases hc with rfl | rfl <;> rfl
  have hk : nameLen (nm ++ c :: r) = nm.length := nameLen_app h1 hi
  have hg : (nm ++ c :: r).getD nm.length 0 = c := by simp
  have hd : (nm ++ c :: r).drop (nm.length + 1) = r := by simp
  have ht : (nm ++ c :: r).take nm.length = nm := by simp
  have h0 : ((nm ++ c :: r) == []) = false := by cases nm <;> rfl
  unfold opnd
  rw [h0, getD_app0 h2, h4, hk, hg, hd, ht, hr, hv]
  simp only [Bool.not_true, Bool.or_self, Bool.false_eq_true, if_false]
  rw [if_neg (by omega), if_neg (by simp; omega)]
  rcases hc with rfl | rfl
  · rfl
  · rfl
theorem opnd_argS (a : Arg) (h : mayA a = true) (h0 : a.k ≠ 0) : opnd (argS a) = (a, 0, 0) := by
  obtain ⟨k, nm, v⟩ := a
  unfold mayA at h
  rw [if_neg h0] at h
  unfold argS
  by_cases h1 : k = 1
  · subst h1
    simp only [if_true] at h ⊢
    simp only [Bool.and_eq_true, beq_iff_eq] at h
    obtain ⟨rfl, hw⟩ := h
    obtain ⟨e1, e2⟩ := itoa_head v
    have e1' : (Lib.itoa v == []) = false := by simpa using e1
    unfold opnd
    rw [num_itoa v hw, e1', e2]
    rfl
  · simp only [if_neg h1] at h ⊢
    by_cases h2 : k = 2
    · subst h2
      simp only [if_true, Bool.and_eq_true] at h
      obtain ⟨hn, hw⟩ := h
      have hw' : -65535 ≤ v ∧ v ≤ 65535 := by simpa [within] using hw
      have hd : ∀ u : Nat, [45].isPrefixOf (Lib.decDigits u) = false := by
        intro u
        cases hd : Lib.decDigits u with
        | nil => rfl
        | cons d r =>
          have h := dec_digit u d (by rw [hd]; simp)
          have : ¬ (45 : UInt8) = d := fun e => by subst e; revert h; decide
          simp [List.isPrefixOf, this]
      rcases Int.lt_trichotomy v 0 with hv | hv | hv
      · obtain ⟨u, rfl⟩ : ∃ u : Nat, v = -(u : Int) := ⟨v.natAbs, by omega⟩
        rw [if_neg (by omega), if_neg (by omega), itoa_negd u (by omega), List.append_nil, opnd_sym hn (.inr rfl) (hd u) u (num_dec u (by omega))]
        rfl
      · subst hv
        obtain ⟨e1, e2, e3, e4⟩ := name_all hn
        rw [if_neg (by omega), if_pos rfl, List.append_nil, List.append_nil]
        have e0 : (nm == []) = false := by cases nm with | nil => simp at e2 | cons _ _ => rfl
        unfold opnd
        rw [e0, e4, nameLen_all e1]
        simp only [Bool.not_true, Bool.or_self, Bool.false_eq_true, if_false]
        rw [if_neg (by omega), if_pos trivial, List.take_length]
      · obtain ⟨u, rfl⟩ : ∃ u : Nat, v = u := ⟨v.toNat, by omega⟩
        rw [if_pos (by omega), if_neg (by omega), Lib.itoa_nonneg, List.append_assoc, List.singleton_append, opnd_sym hn (.inl rfl) (hd u) u (num_dec u (by omega))]
        rfl
    · rw [if_neg h2] at h; cases h
theorem argS_ok (a : Arg) (h : mayA a = true) (h0 : a.k ≠ 0) : (∀ c ∈ argS a, okc c) ∧ argS a ≠ [] ∧ (argS a).length ≤ 30 := by
  have hl : within a.v = true → (Lib.itoa a.v).length ≤ 21 := fun h => by
    have : -65535 ≤ a.v ∧ a.v ≤ 65535 := by simpa [within] using h
    exact itoa_len (by unfold inI64; omega)
  unfold mayA at h
  rw [if_neg h0] at h
  unfold argS
  by_cases h1 : a.k = 1
  · simp only [if_pos h1, Bool.and_eq_true] at h ⊢
    exact ⟨itoa_ok _, (itoa_head _).1, by have := hl h.2; omega⟩
  · simp only [if_neg h1] at h ⊢
    by_cases h2 : a.k = 2
    · simp only [if_pos h2, Bool.and_eq_true] at h
      obtain ⟨e1, e2, e3, e4⟩ := name_all h.1
      have := hl h.2
      refine ⟨?_, ?_, ?_⟩
      · intro c hc
        rcases List.mem_append.mp hc with hc | hc
        · rcases List.mem_append.mp hc with hc | hc
          · exact inner_ok (e1 c hc)
          · split at hc
            · rw [List.mem_singleton] at hc; subst hc; exact ⟨rfl, by decide, by decide⟩
            · simp at hc
        · split at hc
          · simp at hc
          · exact itoa_ok _ c hc
      · intro h; simp at h; rw [h.1] at e2; simp at e2
      · simp only [List.length_append]
        split <;> split <;> simp <;> omega
    · rw [if_neg h2] at h; cases h
theorem flds_blank {o : Nat} {c : UInt8} {r : List UInt8} (hc : blank c = true) : flds o [] (c :: r) = flds (o + 1) [] r := by simp [flds, hc]
theorem word_app {w r : List UInt8} {c : UInt8} (hw : ∀ x ∈ w, okc x) (hc : blank c = true) : word (w ++ c :: r) = w := by
  unfold word
  rw [List.takeWhile_append_of_pos (fun x hx => by rw [(hw x hx).1]; rfl)]
  simp [hc]
theorem word_all {w : List UInt8} (hw : ∀ x ∈ w, okc x) : word w = w := by
  unfold word
  exact tw_all (fun x hx => by rw [(hw x hx).1]; rfl)
theorem flds_cons {w r : List UInt8} {c : UInt8} {o : Nat} (hw : ∀ x ∈ w, okc x) (hn : w ≠ []) (hc : blank c = true) : flds o [] (w ++ c :: r) = (o, w) :: flds (o + w.length + 1) [] r := by
  have hn' : (w == []) = false := by simpa using hn
  rw [flds_word, word_app hw hc, List.nil_append, List.drop_left]
  simp only [flds, hc, if_true, hn', Bool.false_eq_true, if_false]
  rw [Nat.add_sub_cancel]
theorem flds_last {w : List UInt8} {o : Nat} (hw : ∀ x ∈ w, okc x) (hn : w ≠ []) : flds o [] w = [(o, w)] := by
  have hn' : (w == []) = false := by simpa using hn
  rw [flds_word, word_all hw, List.nil_append, List.drop_length]
  simp only [flds, hn', Bool.false_eq_true, if_false]
  rw [Nat.add_sub_cancel]
theorem bef_no {c : UInt8} {s : List UInt8} (h : ∀ x ∈ s, x ≠ c) : bef c s = s := by
  unfold bef
  exact tw_all (fun x hx => by simpa using h x hx)
theorem may_parts {l : Line} (h : mayB l = true) : (l.lab = [] ∨ isName l.lab = true) ∧ (l.op = [] ∨ isName l.op = true) ∧ (l.op = [] → l.arg.k = 0) ∧ mayA l.arg = true := by
  unfold mayB at h
  simp only [Bool.and_eq_true, Bool.not_eq_true', Bool.or_eq_false_iff, Bool.and_eq_false_iff, Bool.not_eq_false', beq_iff_eq] at h
  obtain ⟨⟨⟨h1, h2⟩, h3⟩, h4⟩ := h
  refine ⟨h1, h2, fun h => ?_, h4⟩
  rcases h3 with h3 | h3
  · rw [h] at h3; cases h3
  · exact h3
theorem may_of {l : Line} (h1 : l.lab = [] ∨ isName l.lab = true) (h2 : l.op = [] ∨ isName l.op = true) (h3 : l.op = [] → l.arg.k = 0) (h4 : mayA l.arg = true) : mayB l = true := by
  unfold mayB
  simp only [Bool.and_eq_true, Bool.not_eq_true', Bool.or_eq_false_iff, Bool.and_eq_false_iff, Bool.not_eq_false', beq_iff_eq]
  refine ⟨⟨⟨h1, h2⟩, ?_⟩, h4⟩
  by_cases h : l.op = []
  · exact .inr (h3 h)
  · exact .inl (by simpa using h)
theorem arg0 {a : Arg} (h : mayA a = true) (h0 : a.k = 0) : a = az := by
  obtain ⟨k, nm, v⟩ := a
  unfold mayA at h
  rw [if_pos h0] at h
  simp only [Bool.and_eq_true, beq_iff_eq] at h
  obtain ⟨rfl, rfl⟩ := h
  cases h0; rfl
theorem tl_argS {a : Arg} (h : mayA a = true) : tl a = if a.k = 0 then [] else 32 :: argS a := by
  unfold tl argS
  unfold mayA at h
  split
  · rfl
  · split
    · rfl
    · rename_i h0 h1
      rw [if_neg h0, if_neg h1] at h
      split at h
      · rename_i h2; rw [if_pos h2]; rfl
      · cases h
/-- A printed line is scanned as the same. -/
theorem scan_print {l : Line} (h : mayB l = true) : scan (hd l ++ tl l.arg) = (l, 0, 0) ∧ (hd l ++ tl l.arg).length ≤ 60 ∧ ∀ c ∈ hd l ++ tl l.arg, c ≠ 10 ∧ c ≠ 35 := by
  obtain ⟨h1, h2, h3, h4⟩ := may_parts h
  obtain ⟨lab, op, arg⟩ := l
  dsimp only at h1 h2 h3 h4 ⊢
  have hlab : (∀ c ∈ lab, okc c) ∧ lab.length ≤ 8 := by
    rcases h1 with rfl | h1
    · exact ⟨fun c hc => absurd hc (by simp), by simp⟩
    · obtain ⟨e1, e2, e3, e4⟩ := name_all h1
      exact ⟨fun c hc => inner_ok (e1 c hc), e3⟩
  have hop : (∀ c ∈ op, okc c) ∧ op.length ≤ 8 := by
    rcases h2 with rfl | h1
    · exact ⟨fun c hc => absurd hc (by simp), by simp⟩
    · obtain ⟨e1, e2, e3, e4⟩ := name_all h1
      exact ⟨fun c hc => inner_ok (e1 c hc), e3⟩
  have hall : ∀ c ∈ hd ⟨lab, op, arg⟩ ++ tl arg, c ≠ 10 ∧ c ≠ 35 := by
    intro c hc
    rw [tl_argS h4] at hc
    unfold hd at hc
    dsimp only at hc
    have hw : ∀ c, okc c → c ≠ 10 ∧ c ≠ 35 := fun c h => ⟨h.2.2, h.2.1⟩
    rcases List.mem_append.mp hc with hc | hc
    · split at hc
      · exact hw c (hlab.1 c hc)
      · rcases List.mem_append.mp hc with hc | hc
        · rcases List.mem_append.mp hc with hc | hc
          · exact hw c (hlab.1 c hc)
          · rw [List.mem_singleton] at hc; subst hc; decide
        · exact hw c (hop.1 c hc)
    · split at hc
      · cases hc
      · rename_i h0
        rcases List.mem_cons.mp hc with rfl | hc
        · decide
        · exact hw c ((argS_ok arg h4 h0).1 c hc)
  have hlen : (hd ⟨lab, op, arg⟩ ++ tl arg).length ≤ 60 := by
    rw [tl_argS h4, List.length_append]
    unfold hd
    dsimp only
    have h9 : (if arg.k = 0 then [] else 32 :: argS arg : List UInt8).length ≤ 31 := by
      split
      · simp
      · rename_i h0
        have := (argS_ok arg h4 h0).2.2
        simp; omega
    have h8 : (if op = [] then lab else lab ++ [32] ++ op : List UInt8).length ≤ 17 := by
      split
      · omega
      · simp; omega
    omega
  refine ⟨?_, hlen, hall⟩
  obtain ⟨T, hT⟩ : ∃ T, hd ⟨lab, op, arg⟩ ++ tl arg = T := ⟨_, rfl⟩
  rw [hT] at hall hlen ⊢
  rw [scan, if_neg (by omega), bef_no (fun c hc => (hall c hc).2)]
  by_cases hopn : op = []
  · have hk := h3 hopn
    have ha := arg0 h4 hk
    subst hopn ha
    have hTl : T = lab := by rw [← hT]; simp [hd, tl, az]
    subst hTl
    by_cases hl : T = []
    · subst hl; rfl
    · have hn : isName T = true := h1.resolve_left hl
      have hnx : nx T = 0 := by
        cases T with
        | nil => exact absurd rfl hl
        | cons c r => unfold nx; simp [(hlab.1 c (by simp)).1]
      have hf : fl T 0 = [(0, T)] := by unfold fl; rw [List.drop_zero]; exact flds_last hlab.1 hl
      rw [hnx, hf, scanF, if_pos (by omega), if_pos hn]
      rfl
  · have hn2 : isName op = true := h2.resolve_left hopn
    have hTl : T = lab ++ 32 :: (op ++ (if arg.k = 0 then [] else 32 :: argS arg)) := by
      rw [← hT, tl_argS h4]; unfold hd; dsimp only; rw [if_neg hopn]; simp only [List.append_assoc, List.singleton_append, List.cons_append, List.nil_append]
    have hrest : ∀ o, flds o [] (op ++ (if arg.k = 0 then [] else 32 :: argS arg)) = (o, op) :: (if arg.k = 0 then [] else [(o + op.length + 1, argS arg)]) := by
      intro o
      by_cases h0 : arg.k = 0
      · rw [if_pos h0, if_pos h0, List.append_nil, flds_last hop.1 hopn]
      · obtain ⟨a1, a2, a3⟩ := argS_ok arg h4 h0
        rw [if_neg h0, if_neg h0, flds_cons hop.1 hopn rfl, flds_last a1 a2]
    have htail : ∀ (o : Nat) (l0 : Line), l0.op = [] → l0.arg = az → scanF ((o, op) :: (if arg.k = 0 then [] else [(o + op.length + 1, argS arg)])) 1 l0 = (⟨l0.lab, op, arg⟩, 0, 0) := by
      intro o l0 e1 e2
      obtain ⟨ll, lo, la⟩ := l0
      dsimp only at e1 e2
      subst e1 e2
      rw [scanF, if_pos (by omega), if_pos hn2]
      by_cases h0 : arg.k = 0
      · rw [if_pos h0, arg0 h4 h0]; rfl
      · have ho := opnd_argS arg h4 h0
        rw [if_neg h0, scanF, if_neg (by omega), if_pos (by omega), ho, if_neg (by simp), scanF]
        unfold upd
        rw [if_neg (by omega), if_neg (by omega), ho]
        rfl
    by_cases hl : lab = []
    · subst hl
      have hnx : nx T = 1 := by rw [hTl]; rfl
      have hf : fl T 0 = flds 1 [] (op ++ (if arg.k = 0 then [] else 32 :: argS arg)) := by unfold fl; rw [List.drop_zero, hTl, List.nil_append, flds_blank rfl]
      rw [hnx, hf, hrest, htail 1 lz rfl rfl]
      rfl
    · have hn : isName lab = true := h1.resolve_left hl
      have hnx : nx T = 0 := by
        rw [hTl]
        cases lab with
        | nil => exact absurd rfl hl
        | cons c r => unfold nx; simp [(hlab.1 c (by simp)).1]
      have hf : fl T 0 = (0, lab) :: flds (0 + lab.length + 1) [] (op ++ (if arg.k = 0 then [] else 32 :: argS arg)) := by unfold fl; rw [List.drop_zero, hTl, flds_cons hlab.1 hl rfl]
      rw [hnx, hf, hrest, scanF, if_pos (by omega), if_pos hn, htail _ (upd 0 lab lz) rfl rfl]
      rfl
end Go.Proofs.YtdoeiccibhabcaaDoor

namespace Go.Proofs.YtdoeiccibhabcaaDoor
open Go Go.AM
attribute [local irreducible] AWP CallK PureCall SubS HeapCall
theorem ne0 (k : Int) (h : (k == 0) = false) : k ≠ 0 := by simpa using h
theorem letter_inner {c : UInt8} (h : letter c = true) : inner c = true := by unfold inner; rw [h]; rfl
theorem num_within {s : List UInt8} : within (num s).1 = true := by
  have := num_bounds s
  simp [within]; omega
theorem take_name {s : List UInt8} (h0 : s ≠ []) (h1 : letter (s.getD 0 0) = true) (h2 : nameLen s ≤ 8) : isName (s.take (nameLen s)) = true := by
  have e : s.take (nameLen s) = s.takeWhile inner := (List.prefix_iff_eq_take.mp (List.takeWhile_prefix inner)).symm
  have hl : 1 ≤ (s.takeWhile inner).length := by
    cases s with
    | nil => exact absurd rfl h0
    | cons c r =>
      have : inner c = true := letter_inner h1
      simp [this]
  refine name_of (fun c hc => by rw [e] at hc; exact tw_mem hc) (by rw [e]; exact hl) (by rw [List.length_take]; omega) ?_
  cases s with
  | nil => exact absurd rfl h0
  | cons c r =>
    rw [e]
    have : inner c = true := letter_inner h1
    simp [this]
    exact h1
/-- An operand that is read is one that can be printed, and is none of kind 0; otherwise the error lies in it. -/
theorem opnd_ok (s : List UInt8) : ((opnd s).2.2 = 0 → mayA (opnd s).1 = true ∧ (opnd s).1.k ≠ 0 ∧ (opnd s).2.1 = 0) ∧ 0 ≤ (opnd s).2.1 ∧ (opnd s).2.1 ≤ s.length := by
  unfold opnd
  split
  · rename_i h
    split
    · rename_i h2
      exact ⟨fun h => absurd h h2, Int.le_refl _, Int.natCast_nonneg _⟩
    · refine ⟨fun _ => ⟨?_, (show _ ≠ (0 : Int) from ne0 _ rfl), rfl⟩, Int.le_refl _, Int.natCast_nonneg _⟩
      unfold mayA
      simp only [if_neg (show ¬ (1 : Int) = 0 by decide), if_true, num_within]
      rfl
  · rename_i h
    simp only [Bool.or_eq_true, not_or, Bool.not_eq_true, Bool.not_eq_false'] at h
    have h0 : s ≠ [] := fun e => by rw [e] at h; exact absurd h.1 (by simp)
    have hkl : nameLen s ≤ s.length := tw_le s
    split
    · exact ⟨fun h => absurd (show (5 : Int) = 0 from h) (by decide), Int.le_refl _, Int.natCast_nonneg _⟩
    · rename_i h8
      have hn := take_name h0 h.2 (by omega)
      split
      · refine ⟨fun _ => ⟨?_, (show _ ≠ (0 : Int) from ne0 _ rfl), rfl⟩, Int.le_refl _, Int.natCast_nonneg _⟩
        unfold mayA
        simp only [if_neg (show ¬ (2 : Int) = 0 by decide), if_neg (show ¬ (2 : Int) = 1 by decide), if_true, hn]
        rfl
      · rename_i hk
        split
        · split
          · exact ⟨fun h => absurd (show (5 : Int) = 0 from h) (by decide), by dsimp only; omega, by dsimp only; omega⟩
          · split
            · rename_i h2
              exact ⟨fun h => absurd h h2, by dsimp only; omega, by dsimp only; omega⟩
            · refine ⟨fun _ => ⟨?_, (show _ ≠ (0 : Int) from ne0 _ rfl), rfl⟩, Int.le_refl _, Int.natCast_nonneg _⟩
              have hw : within (if ((s.getD (nameLen s) 0).toNat : Int) = 45 then -(num (s.drop (nameLen s + 1))).1 else (num (s.drop (nameLen s + 1))).1) = true := by
                have := num_bounds (s.drop (nameLen s + 1))
                split <;> (simp [within]; omega)
              unfold mayA
              simp only [if_neg (show ¬ (2 : Int) = 0 by decide), if_neg (show ¬ (2 : Int) = 1 by decide), if_true, hn, hw]
              rfl
        · exact ⟨fun h => absurd (show (5 : Int) = 0 from h) (by decide), by dsimp only; omega, by dsimp only; omega⟩
/-- What a line holds after m fields. -/
def Inv (m : Nat) (l : Line) : Prop :=
  (l.lab = [] ∨ isName l.lab = true) ∧ (m ≤ 1 → l.op = []) ∧ (2 ≤ m → isName l.op = true) ∧ (m ≤ 2 → l.arg = az) ∧ mayA l.arg = true
theorem inv_may {m : Nat} {l : Line} (h : Inv m l) : mayB l = true := by
  obtain ⟨h1, h2, h3, h4, h5⟩ := h
  refine may_of h1 ?_ ?_ h5
  · by_cases hm : m ≤ 1
    · exact .inl (h2 hm)
    · exact .inr (h3 (by omega))
  · intro ho
    by_cases hm : m ≤ 2
    · rw [h4 hm]; rfl
    · have := h3 (by omega)
      rw [ho] at this; exact absurd this (by decide)
theorem inv_upd {m : Nat} {l : Line} {s : List UInt8} (h : Inv m l) (h1 : m ≤ 1 → isName s = true) (h2 : m = 2 → (opnd s).2.2 = 0) (hm : m ≤ 2) : Inv (m + 1) (upd m s l) := by
  obtain ⟨e1, e2, e3, e4, e5⟩ := h
  unfold upd
  by_cases m0 : m = 0
  · subst m0
    exact ⟨.inr (h1 (by omega)), fun _ => e2 (by omega), fun h => by omega, fun _ => e4 (by omega), e5⟩
  · rw [if_neg m0]
    by_cases m1 : m = 1
    · subst m1
      exact ⟨e1, fun h => by omega, fun _ => h1 (by omega), fun _ => e4 (by omega), e5⟩
    · rw [if_neg m1]
      exact ⟨e1, fun h => by omega, fun _ => e3 (by omega), fun h => by omega, ((opnd_ok s).1 (h2 (by omega))).1⟩
theorem scanF_ok (n : Nat) : ∀ (ps : List (Nat × List UInt8)) (m : Nat) (l : Line), (∀ p ∈ ps, p.1 + p.2.length ≤ n) → m ≤ 3 → Inv m l →
    ((scanF ps m l).2.2 = 0 → mayB (scanF ps m l).1 = true ∧ (scanF ps m l).2.1 = 0) ∧ ((scanF ps m l).2.2 ≠ 0 → (scanF ps m l).1 = lz ∧ 0 ≤ (scanF ps m l).2.1 ∧ (scanF ps m l).2.1 ≤ n)
  | [], m, l, _, _, hI => ⟨fun _ => ⟨inv_may hI, rfl⟩, fun h => absurd rfl h⟩
  | p :: ps, m, l, hp, hm, hI => by
    have hp1 := hp p (by simp)
    have hps : ∀ q ∈ ps, q.1 + q.2.length ≤ n := fun q hq => hp q (by simp [hq])
    unfold scanF
    split
    · split
      · rename_i h1 h2
        exact scanF_ok n ps (m + 1) _ hps (by omega) (inv_upd hI (fun _ => h2) (fun h => by omega) (by omega))
      · exact ⟨fun h => absurd (show (5 : Int) = 0 from h) (by decide), fun _ => ⟨rfl, by dsimp only; omega, by dsimp only; omega⟩⟩
    · split
      · split
        · rename_i h3
          have := (opnd_ok p.2).2
          exact ⟨fun h => absurd h h3, fun _ => ⟨rfl, by dsimp only; omega, by dsimp only; omega⟩⟩
        · rename_i h1 h2 h3
          exact scanF_ok n ps (m + 1) _ hps (by omega) (inv_upd hI (fun h => by omega) (fun _ => by simpa using h3) (by omega))
      · exact ⟨fun h => absurd (show (5 : Int) = 0 from h) (by decide), fun _ => ⟨rfl, by dsimp only; omega, by dsimp only; omega⟩⟩
theorem flds_bd2 : ∀ (s : List UInt8) (o : Nat) (cur : List UInt8) (p : Nat × List UInt8), cur.length ≤ o → p ∈ flds o cur s → p.1 + p.2.length ≤ o + s.length
  | [], o, cur, p, hc, h => by
    simp only [flds] at h
    split at h
    · cases h
    · simp only [List.mem_singleton] at h; subst h; simp; omega
  | c :: s, o, cur, p, hc, h => by
    simp only [flds] at h
    split at h
    · split at h
      · have := flds_bd2 s (o + 1) [] p (by simp) h; simp at this ⊢; omega
      · rcases List.mem_cons.mp h with rfl | h
        · simp; omega
        · have := flds_bd2 s (o + 1) [] p (by simp) h; simp at this ⊢; omega
    · have := flds_bd2 s (o + 1) (cur ++ [c]) p (by simp; omega) h; simp at this ⊢; omega
theorem scan_ok (s : List UInt8) : ((scan s).2.2 = 0 → mayB (scan s).1 = true ∧ (scan s).2.1 = 0) ∧ ((scan s).2.2 ≠ 0 → (scan s).1 = lz ∧ 0 ≤ (scan s).2.1 ∧ (scan s).2.1 ≤ s.length) := by
  by_cases h : 120 < (s.length : Int)
  · rw [scan, if_pos h]
    exact ⟨fun h => absurd (show (4 : Int) = 0 from h) (by decide), fun _ => ⟨rfl, by dsimp only; omega, by dsimp only; omega⟩⟩
  · rw [scan, if_neg h]
    refine scanF_ok s.length _ _ _ (fun p hp => ?_) (by unfold nx; split <;> omega) ⟨.inl rfl, fun _ => rfl, fun h => ?_, fun _ => rfl, rfl⟩
    · unfold fl at hp
      have := flds_bd2 _ _ _ _ (by simp) hp
      have := bef_le 35 s
      simp at *; omega
    · unfold nx at h; split at h <;> omega
theorem print_ok {l : Line} (h : mayB l = true) : print l = (hd l ++ tl l.arg, 0) := by rw [print_may, h]; rfl
theorem B62_of {s : List UInt8} {n : Nat} (h : s.length ≤ n) (hn : n < 2 ^ 62) : B62 s := by unfold B62; omega
theorem may_bd {l : Line} (h : mayB l = true) : l.lab.length ≤ 8 ∧ l.op.length ≤ 8 ∧ l.arg.nm.length ≤ 8 ∧ inI64 l.arg.v ∧ within l.arg.v = true := by
  obtain ⟨h1, h2, h3, h4⟩ := may_parts h
  have key : l.arg.nm.length ≤ 8 ∧ within l.arg.v = true := by
    unfold mayA at h4
    split at h4
    · simp only [Bool.and_eq_true, beq_iff_eq] at h4
      rw [h4.1, h4.2]; exact ⟨by simp, rfl⟩
    · split at h4
      · simp only [Bool.and_eq_true, beq_iff_eq] at h4
        rw [h4.1]; exact ⟨by simp, h4.2⟩
      · split at h4
        · simp only [Bool.and_eq_true] at h4
          exact ⟨(name_all h4.1).2.2.1, h4.2⟩
        · cases h4
  have hw : -65535 ≤ l.arg.v ∧ l.arg.v ≤ 65535 := by simpa [within] using key.2
  refine ⟨?_, ?_, key.1, by unfold inI64; omega, key.2⟩
  · rcases h1 with h1 | h1
    · rw [h1]; simp
    · exact (name_all h1).2.2.1
  · rcases h2 with h1 | h1
    · rw [h1]; simp
    · exact (name_all h1).2.2.1
theorem f7 (s : List UInt8) (hs : B62 s) : PureCall Tryd.prog 7 [st s] (bb true) := by
  obtain ⟨h0, h1⟩ := scan_ok s
  have c1 := f21 s hs
  obtain ⟨⟨l, at', e⟩, hsc⟩ : ∃ x, scan s = x := ⟨_, rfl⟩
  rw [hsc] at h0 h1 c1
  dsimp only at h0 h1
  refine PureCall.run tab_ok mixed (by kernel_rfl) Tryd.func7 rfl rfl rfl ?_
  conv => whnf
  repeat (first | ((with_reducible first | apply ga | apply gb | apply gc | apply gd | apply ge | apply gf | apply gg | apply gh | apply gi | apply gj); conv => whnf) | (refine ⟨⟨rfl, rfl, nle rfl, nle rfl⟩, ?_⟩; conv => whnf) | fail)
  refine CallK.flat [] c1 ⟨.same, trivial⟩ rfl ?_
  conv => whnf
  repeat (first | ((with_reducible first | apply ga | apply gb | apply gc | apply gd | apply ge | apply gf | apply gg | apply gh | apply gi | apply gj); conv => whnf) | (refine ⟨⟨rfl, rfl, nle rfl, nle rfl⟩, ?_⟩; conv => whnf) | fail)
  refine ⟨fun he => ?_, fun he => ?_⟩ <;> replace he := nm he <;> (try simp only [Int.toNat_zero] at he) <;> (try simp only [Int.toNat_one] at he)
  · obtain ⟨rfl, h2, h3⟩ := h1 he
    conv => whnf
    repeat (first | ((with_reducible first | apply ga | apply gb | apply gc | apply gd | apply ge | apply gf | apply gg | apply gh | apply gi | apply gj); conv => whnf) | (refine ⟨⟨rfl, rfl, nle rfl, nle rfl⟩, ?_⟩; conv => whnf) | fail)
    refine ⟨fun hz => ?_, fun hz => ?_⟩ <;> replace hz := nm hz <;> (try simp only [Int.toNat_zero] at hz) <;> (try simp only [Int.toNat_one] at hz)
    · conv => whnf
      repeat (first | ((with_reducible first | apply ga | apply gb | apply gc | apply gd | apply ge | apply gf | apply gg | apply gh | apply gi | apply gj); conv => whnf) | (refine ⟨⟨rfl, rfl, nle rfl, nle rfl⟩, ?_⟩; conv => whnf) | fail)
      refine ⟨fun ha => ?_, fun ha => ?_⟩ <;> replace ha := nm ha <;> (try simp only [Int.toNat_zero] at ha) <;> (try simp only [Int.toNat_one] at ha)
      · conv => whnf
        repeat (first | ((with_reducible first | apply ga | apply gb | apply gc | apply gd | apply ge | apply gf | apply gg | apply gh | apply gi | apply gj); conv => whnf) | (refine ⟨⟨rfl, rfl, nle rfl, nle rfl⟩, ?_⟩; conv => whnf) | fail)
        refine ⟨fun hb => ?_, fun hb => ?_⟩ <;> replace hb := nm hb <;> (try simp only [Int.toNat_zero] at hb) <;> (try simp only [Int.toNat_one] at hb)
        · conv => whnf
          repeat (first | ((with_reducible first | apply ga | apply gb | apply gc | apply gd | apply ge | apply gf | apply gg | apply gh | apply gi | apply gj); conv => whnf) | (refine ⟨⟨rfl, rfl, nle rfl, nle rfl⟩, ?_⟩; conv => whnf) | fail)
          repeat (first | ((with_reducible first | apply ga | apply gb | apply gc | apply gd | apply ge | apply gf | apply gg | apply gh | apply gi | apply gj); conv => whnf) | (refine ⟨⟨rfl, rfl, nle rfl, nle rfl⟩, ?_⟩; conv => whnf) | (refine CallK.flat [] f18 trivial rfl ?_; conv => whnf) | (refine ⟨fun _ => ?_, fun h => absurd h (by simp)⟩; conv => whnf) | fail)
          exact done_bool _ _ rfl rfl rfl
        · exfalso; omega
      · exfalso; omega
    · exact absurd hz (by decide)
  · obtain ⟨h2, h3⟩ := h0 he
    have hp := print_ok h2
    obtain ⟨h4, h5, h6⟩ := scan_print h2
    have h7 := may_bd h2
    have c2 := f23 l ⟨by omega, by omega, by omega, h7.2.2.2.1⟩
    have c3 := f21 (hd l ++ tl l.arg) (B62_of h5 (by decide))
    rw [hp] at c2
    rw [h4] at c3
    subst h3 he
    conv => whnf
    repeat (first | ((with_reducible first | apply ga | apply gb | apply gc | apply gd | apply ge | apply gf | apply gg | apply gh | apply gi | apply gj); conv => whnf) | (refine ⟨⟨rfl, rfl, nle rfl, nle rfl⟩, ?_⟩; conv => whnf) | fail)
    refine CallK.flat [] c2 ⟨agg5 .same .same .same .same .same, trivial⟩ rfl ?_
    conv => whnf
    repeat (first | ((with_reducible first | apply ga | apply gb | apply gc | apply gd | apply ge | apply gf | apply gg | apply gh | apply gi | apply gj); conv => whnf) | (refine ⟨⟨rfl, rfl, nle rfl, nle rfl⟩, ?_⟩; conv => whnf) | fail)
    refine CallK.flat [] c3 ⟨.same, trivial⟩ rfl ?_
    conv => whnf
    repeat (first | ((with_reducible first | apply ga | apply gb | apply gc | apply gd | apply ge | apply gf | apply gg | apply gh | apply gi | apply gj); conv => whnf) | (refine ⟨⟨rfl, rfl, nle rfl, nle rfl⟩, ?_⟩; conv => whnf) | fail)
    repeat (first | ((with_reducible first | apply ga | apply gb | apply gc | apply gd | apply ge | apply gf | apply gg | apply gh | apply gi | apply gj); conv => whnf) | (refine ⟨⟨rfl, rfl, nle rfl, nle rfl⟩, ?_⟩; conv => whnf) | (refine CallK.flat [] f18 trivial rfl ?_; conv => whnf) | (refine ⟨fun _ => ?_, fun h => absurd h (by simp)⟩; conv => whnf) | fail)
    exact done_bool _ _ rfl rfl rfl
end Go.Proofs.YtdoeiccibhabcaaDoor

namespace Go.Proofs.YtdoeiccibhabcaaDoor
open Go Go.AM
attribute [local irreducible] AWP CallK PureCall SubS HeapCall
/-- The lines of a source; cur came before. -/
def lnsF : List UInt8 → List UInt8 → List (List UInt8)
  | cur, [] => if cur == [] then [] else [cur]
  | cur, c :: s => if c == 10 then cur :: lnsF [] s else lnsF (cur ++ [c]) s
def lns (s : List UInt8) : List (List UInt8) := lnsF [] s
theorem lnsF_bef : ∀ (s cur : List UInt8), lnsF cur s = if s.contains 10 then (cur ++ bef 10 s) :: lns (aft 10 s) else (if (cur ++ s) == [] then [] else [cur ++ s])
  | [], cur => by simp [lnsF]
  | c :: s, cur => by
    by_cases hc : c = 10
    · subst hc; simp [lnsF, bef, aft, lns]
    · have h1 : (c == 10) = false := by simpa using hc
      have h2 : (10 == c) = false := by simpa using Ne.symm hc
      have hb : bef 10 (c :: s) = c :: bef 10 s := by simp [bef, hc]
      have ha : aft 10 (c :: s) = aft 10 s := by simp [aft, hc]
      rw [lnsF, h1, if_neg (by decide), lnsF_bef s, List.contains_cons, h2, Bool.false_or, hb, ha]
      simp
theorem bef_all {c : UInt8} : ∀ {s : List UInt8}, s.contains c = false → bef c s = s ∧ aft c s = []
  | [], _ => ⟨rfl, rfl⟩
  | d :: s, h => by
    simp only [List.contains_cons, Bool.or_eq_false_iff] at h
    have hne : d ≠ c := fun e => by rw [e] at h; simp at h
    obtain ⟨h1, h2⟩ := bef_all h.2
    simp only [bef, aft] at h1 h2 ⊢
    simp [hne, h1, h2]
theorem lns_cut {s : List UInt8} (h : s ≠ []) : lns s = bef 10 s :: lns (aft 10 s) ∧ (aft 10 s).length < s.length := by
  constructor
  · unfold lns
    rw [lnsF_bef]
    cases hc : s.contains 10 with
    | true => rfl
    | false =>
      obtain ⟨h1, h2⟩ := bef_all hc
      rw [h1, h2]
      simp [h, lnsF]
  · cases s with
    | nil => exact absurd rfl h
    | cons c s =>
      unfold aft
      have : ((c :: s).dropWhile (· != 10)).length ≤ (c :: s).length := (List.dropWhile_suffix _).length_le
      simp only [List.length_drop, List.length_cons] at *
      omega
theorem lnsF_take {s : List UInt8} {i f : Nat} (hi : i < s.length) (hf : f ≤ i) : lnsF ((s.take i).drop f) (s.drop i) =
    if s.getD i 0 == 10 then (s.take i).drop f :: lnsF ((s.take (i + 1)).drop (i + 1)) (s.drop (i + 1)) else lnsF ((s.take (i + 1)).drop f) (s.drop (i + 1)) := by
  have e1 : (s.take (i + 1)).drop (i + 1) = [] := List.drop_eq_nil_of_le (by simp; omega)
  have e2 : (s.take (i + 1)).drop f = (s.take i).drop f ++ [s.getD i 0] := by
    rw [List.take_add_one, List.drop_append_of_le_length (by simp; omega)]
    simp [hi]
  rw [getD_drop hi, lnsF, e1, e2]
def scell (s : List UInt8) (_ : Nat) : PV := .str s
def strsP (L : List (List UInt8)) : PV := sqA 9 1 scell [] L
theorem f49 (s : List UInt8) (hs : s.length < 2 ^ 40) : PureCall Tryd.prog 49 [st s] (.pv (strsP (lns s))) := by
  refine PureCall.run tab_ok mixed (by kernel_rfl) Tryd.func49 rfl rfl rfl ?_
  conv => whnf
  repeat (first | ((with_reducible first | apply ga | apply gb | apply gc | apply gd | apply ge | apply gf | apply gg | apply gh | apply gi | apply gj); conv => whnf) | (refine ⟨⟨rfl, rfl, nle rfl, nle rfl⟩, ?_⟩; conv => whnf) | fail)
  refine ex_loop tab_ok mixed (fun x : Nat × Nat × List (List UInt8) × Nat => x.1 ≤ s.length ∧ x.2.1 ≤ x.1 ∧ x.2.2.1.length ≤ x.1 ∧ x.2.2.1 ++ lnsF ((s.take x.1).drop x.2.1) (s.drop x.1) = lns s) (fun x => mkSt 36 [(0, st s), (3, .row 1003 x.2.2.2 1 0 x.2.2.1.length), (4, i64 x.2.1), (5, i64 x.1)] [(1003, rowA 9 1 scell [] x.2.2.2 x.2.2.1)]) (fun x => s.length - x.1) (0, 0, [], 0) ⟨Nat.zero_le _, Nat.zero_le _, Nat.zero_le _, rfl⟩ (SubS.mkN [] [] rfl rfl rfl ⟨⟨_, rfl, .same⟩, ⟨_, rfl, .void _ _ _⟩, ⟨_, rfl, .same⟩, ⟨_, rfl, .same⟩, trivial⟩ ⟨.inr ⟨rfl, rfl⟩, trivial⟩) ?_
  rintro ⟨i, f, L, g⟩ ⟨hi, hf, hLi, hL⟩
  dsimp only at hi hf hLi hL ⊢
  conv => whnf
  repeat (first | ((with_reducible first | apply ga | apply gb | apply gc | apply gd | apply ge | apply gf | apply gg | apply gh | apply gi | apply gj); conv => whnf) | (refine ⟨⟨rfl, rfl, nle rfl, nle rfl⟩, ?_⟩; conv => whnf) | fail)
  refine ⟨fun hc => ?_, fun hc => ?_⟩ <;> replace hc := nm hc <;> (try simp only [Int.toNat_zero] at hc) <;> (try simp only [Int.toNat_one] at hc)
  · have hlt : i < s.length := by omega
    rw [lnsF_take hlt hf] at hL
    conv => whnf
    repeat (first | ((with_reducible first | apply ga | apply gb | apply gc | apply gd | apply ge | apply gf | apply gg | apply gh | apply gi | apply gj); conv => whnf) | (refine ⟨⟨rfl, rfl, nle rfl, nle rfl⟩, ?_⟩; conv => whnf) | fail)
    refine ⟨⟨by omega, by omega⟩, ?_⟩
    conv => whnf
    repeat (first | ((with_reducible first | apply ga | apply gb | apply gc | apply gd | apply ge | apply gf | apply gg | apply gh | apply gi | apply gj); conv => whnf) | (refine ⟨⟨rfl, rfl, nle rfl, nle rfl⟩, ?_⟩; conv => whnf) | fail)
    rw [show ((i : Int)).toNat = i from Int.toNat_natCast _]
    refine ⟨fun hb => ?_, fun hb => ?_⟩ <;> replace hb := nm hb <;> (try simp only [Int.toNat_zero] at hb) <;> (try simp only [Int.toNat_one] at hb)
    · have hb' : (s.getD i 0 == 10) = true := by
        rw [← nat_beq]; simpa using hb
      rw [if_pos hb'] at hL
      conv => whnf
      repeat (first | ((with_reducible first | apply ga | apply gb | apply gc | apply gd | apply ge | apply gf | apply gg | apply gh | apply gi | apply gj); conv => whnf) | (refine ⟨⟨rfl, rfl, nle rfl, nle rfl⟩, ?_⟩; conv => whnf) | fail)
      refine ⟨⟨by omega, by omega, by omega⟩, ?_⟩
      conv => whnf
      repeat (first | ((with_reducible first | apply ga | apply gb | apply gc | apply gd | apply ge | apply gf | apply gg | apply gh | apply gi | apply gj); conv => whnf) | (refine ⟨⟨rfl, rfl, nle rfl, nle rfl⟩, ?_⟩; conv => whnf) | fail)
      refine ⟨⟨⟨rfl, rfl, rfl, nle rfl⟩, rfl, rfl, rfl, rfl, rfl, rfl, show (L.length + 1) * 16 ≤ 140737488355328 by omega⟩, ?_⟩
      conv => whnf
      repeat (first | ((with_reducible first | apply ga | apply gb | apply gc | apply gd | apply ge | apply gf | apply gg | apply gh | apply gi | apply gj); conv => whnf) | (refine ⟨⟨rfl, rfl, nle rfl, nle rfl⟩, ?_⟩; conv => whnf) | fail)
      refine ⟨⟨by unfold inI64; omega⟩, ?_⟩
      conv => whnf
      repeat (first | ((with_reducible first | apply ga | apply gb | apply gc | apply gd | apply ge | apply gf | apply gg | apply gh | apply gi | apply gj); conv => whnf) | (refine ⟨⟨rfl, rfl, nle rfl, nle rfl⟩, ?_⟩; conv => whnf) | fail)
      refine ⟨⟨by unfold inI64; omega⟩, ?_⟩
      conv => whnf
      repeat (first | ((with_reducible first | apply ga | apply gb | apply gc | apply gd | apply ge | apply gf | apply gg | apply gh | apply gi | apply gj); conv => whnf) | (refine ⟨⟨rfl, rfl, nle rfl, nle rfl⟩, ?_⟩; conv => whnf) | fail)
      refine ⟨(i + 1, i + 1, L ++ [(s.take i).drop f], g + 1), ⟨by dsimp only; omega, by dsimp only; omega, by dsimp only; rw [List.length_append, List.length_singleton]; omega, by dsimp only; rw [List.append_assoc]; exact hL⟩, SubS.mkN [] [(1003, 1003)] rfl rfl rfl ⟨⟨_, rfl, .same⟩, ⟨_, rfl, .row _ _ _ _ _ _ _ _ _ rfl rfl rfl (by simp)⟩, ⟨_, rfl, .same⟩, ⟨_, rfl, .same⟩, trivial⟩ ⟨.inl ⟨_, _, rfl, rfl, rfl, OLe.snocA rfl rfl rfl rfl rfl fun j hj => ?_⟩, trivial⟩, by dsimp only; omega⟩
      have e2 : (s.take (i : Int).toNat).drop (f : Int).toNat = (s.take i).drop f := by rw [Int.toNat_natCast, Int.toNat_natCast]
      rw [← e2]
      match j with
      | 0 => exact .same
    · have hb' : (s.getD i 0 == 10) = false := by
        rw [← nat_beq]; simpa using hb
      rw [hb', if_neg (by decide)] at hL
      conv => whnf
      repeat (first | ((with_reducible first | apply ga | apply gb | apply gc | apply gd | apply ge | apply gf | apply gg | apply gh | apply gi | apply gj); conv => whnf) | (refine ⟨⟨rfl, rfl, nle rfl, nle rfl⟩, ?_⟩; conv => whnf) | fail)
      refine ⟨⟨by unfold inI64; omega⟩, ?_⟩
      conv => whnf
      repeat (first | ((with_reducible first | apply ga | apply gb | apply gc | apply gd | apply ge | apply gf | apply gg | apply gh | apply gi | apply gj); conv => whnf) | (refine ⟨⟨rfl, rfl, nle rfl, nle rfl⟩, ?_⟩; conv => whnf) | fail)
      exact ⟨(i + 1, f, L, g), ⟨by dsimp only; omega, by dsimp only; omega, by dsimp only; omega, hL⟩, SubS.mkN [] [(1003, 1003)] rfl rfl rfl ⟨⟨_, rfl, .same⟩, ⟨_, rfl, .row _ _ _ _ _ _ _ _ _ rfl rfl rfl rfl⟩, ⟨_, rfl, .same⟩, ⟨_, rfl, .same⟩, trivial⟩ ⟨.inl ⟨_, _, rfl, rfl, rfl, OLe.keepA⟩, trivial⟩, by dsimp only; omega⟩
  · have he : i = s.length := by omega
    subst he
    rw [List.drop_length, List.take_length] at hL
    conv => whnf
    repeat (first | ((with_reducible first | apply ga | apply gb | apply gc | apply gd | apply ge | apply gf | apply gg | apply gh | apply gi | apply gj); conv => whnf) | (refine ⟨⟨rfl, rfl, nle rfl, nle rfl⟩, ?_⟩; conv => whnf) | fail)
    refine ⟨fun hl => ?_, fun hl => ?_⟩ <;> replace hl := nm hl <;> (try simp only [Int.toNat_zero] at hl) <;> (try simp only [Int.toNat_one] at hl)
    · conv => whnf
      repeat (first | ((with_reducible first | apply ga | apply gb | apply gc | apply gd | apply ge | apply gf | apply gg | apply gh | apply gi | apply gj); conv => whnf) | (refine ⟨⟨rfl, rfl, nle rfl, nle rfl⟩, ?_⟩; conv => whnf) | fail)
      refine ⟨⟨by omega, by omega⟩, ?_⟩
      conv => whnf
      repeat (first | ((with_reducible first | apply ga | apply gb | apply gc | apply gd | apply ge | apply gf | apply gg | apply gh | apply gi | apply gj); conv => whnf) | (refine ⟨⟨rfl, rfl, nle rfl, nle rfl⟩, ?_⟩; conv => whnf) | fail)
      refine ⟨⟨⟨rfl, rfl, rfl, nle rfl⟩, rfl, rfl, rfl, rfl, rfl, rfl, show (L.length + 1) * 16 ≤ 140737488355328 by omega⟩, ?_⟩
      conv => whnf
      repeat (first | ((with_reducible first | apply ga | apply gb | apply gc | apply gd | apply ge | apply gf | apply gg | apply gh | apply gi | apply gj); conv => whnf) | (refine ⟨⟨rfl, rfl, nle rfl, nle rfl⟩, ?_⟩; conv => whnf) | fail)
      have hne : (s.drop f == []) = false := by
        cases hd : s.drop f with
        | nil => have := congrArg List.length hd; simp at this; omega
        | cons _ _ => rfl
      rw [lnsF, hne, if_neg (by decide)] at hL
      rw [← hL]
      refine ⟨[1003], VLe.frzO rfl rfl (OLe.snocA rfl rfl rfl rfl rfl fun j hj => ?_) (by simp)⟩
      have e2 : s.drop (f : Int).toNat = s.drop f := by rw [Int.toNat_natCast]
      rw [← e2]
      match j with
      | 0 => exact .same
    · conv => whnf
      repeat (first | ((with_reducible first | apply ga | apply gb | apply gc | apply gd | apply ge | apply gf | apply gg | apply gh | apply gi | apply gj); conv => whnf) | (refine ⟨⟨rfl, rfl, nle rfl, nle rfl⟩, ?_⟩; conv => whnf) | fail)
      have hne : s.drop f = [] := List.drop_eq_nil_of_le (by omega)
      rw [hne, show lnsF [] [] = [] from rfl, List.append_nil] at hL
      rw [← hL]
      exact ⟨[1003], VLe.frzA rfl rfl rfl⟩
end Go.Proofs.YtdoeiccibhabcaaDoor

namespace Go.Proofs.YtdoeiccibhabcaaDoor
open Go Go.AM
attribute [local irreducible] AWP CallK PureCall SubS HeapCall
def Line.p (l : Line) (j : Nat) : PV :=
  match j with
  | 0 => .str l.lab
  | 1 => .str l.op
  | 2 => .int .u8 l.arg.k
  | 3 => .str l.arg.nm
  | _ => .int .i64 l.arg.v
def linesP (L : List Line) : PV := sqA 32 5 Line.p lz L
/-- The lines are scanned, acc came before. -/
def scanL : List (List UInt8) → List Line → List Line × Int × Int
  | [], acc => (acc, 0, 0)
  | x :: xs, acc => if (scan x).2.2 ≠ 0 then ([], acc.length + 1, (scan x).2.2) else scanL xs (acc ++ [(scan x).1])
def scanAll (s : List UInt8) : List Line × Int × Int := if 65536 < (s.length : Int) then ([], 0, 4) else scanL (lns s) []
def allT (x : List Line × Int × Int) : AV := tupV [.pv (linesP x.1), i64 x.2.1, i64 x.2.2]
theorem aft_le (c : UInt8) (s : List UInt8) : (aft c s).length ≤ s.length := by
  unfold aft
  have : (s.dropWhile (· != c)).length ≤ s.length := (List.dropWhile_suffix _).length_le
  simp only [List.length_drop]; omega
set_option maxHeartbeats 1000000 in
theorem f28 (s : List UInt8) (hs : B62 s) : PureCall Tryd.prog 28 [st s] (allT (scanAll s)) := by
  unfold B62 at hs
  refine PureCall.run tab_ok mixed (by kernel_rfl) Tryd.func28 rfl rfl rfl ?_
  conv => whnf
  repeat (first | ((with_reducible first | apply ga | apply gb | apply gc | apply gd | apply ge | apply gf | apply gg | apply gh | apply gi | apply gj); conv => whnf) | (refine ⟨⟨rfl, rfl, nle rfl, nle rfl⟩, ?_⟩; conv => whnf) | fail)
  refine ⟨fun hL => ?_, fun hL => ?_⟩ <;> replace hL := nm hL <;> (try simp only [Int.toNat_zero] at hL) <;> (try simp only [Int.toNat_one] at hL)
  · conv => whnf
    repeat (first | ((with_reducible first | apply ga | apply gb | apply gc | apply gd | apply ge | apply gf | apply gg | apply gh | apply gi | apply gj); conv => whnf) | (refine ⟨⟨rfl, rfl, nle rfl, nle rfl⟩, ?_⟩; conv => whnf) | fail)
    rw [show scanAll s = ([], 0, 4) by unfold scanAll; rw [if_pos hL]]
    exact done_tup [.pv (linesP []), i64 0, i64 4] [] rfl ⟨VLe.nilA, .same, .same, trivial⟩
  · have hsc : scanAll s = scanL (lns s) [] := by unfold scanAll; rw [if_neg (by omega)]
    conv => whnf
    repeat (first | ((with_reducible first | apply ga | apply gb | apply gc | apply gd | apply ge | apply gf | apply gg | apply gh | apply gi | apply gj); conv => whnf) | (refine ⟨⟨rfl, rfl, nle rfl, nle rfl⟩, ?_⟩; conv => whnf) | fail)
    refine ex_loop tab_ok mixed (fun x : List UInt8 × List Line × Nat => x.2.1.length + x.1.length ≤ 65536 ∧ scanAll s = scanL (lns x.1) x.2.1) (fun x => mkSt 41 [(0, st x.1), (5, .row 1005 x.2.2 5 0 x.2.1.length)] [(1005, rowA 32 5 Line.p lz x.2.2 x.2.1)]) (fun x => x.1.length) (s, [], 0) ⟨by simp; omega, hsc⟩ (SubS.mkN [] [] rfl rfl rfl ⟨⟨_, rfl, .same⟩, ⟨_, rfl, .void _ _ _⟩, trivial⟩ ⟨.inr ⟨rfl, rfl⟩, trivial⟩) ?_
    rintro ⟨r, L, g⟩ ⟨hLr, hI⟩
    dsimp only at hLr hI ⊢
    conv => whnf
    repeat (first | ((with_reducible first | apply ga | apply gb | apply gc | apply gd | apply ge | apply gf | apply gg | apply gh | apply gi | apply gj); conv => whnf) | (refine ⟨⟨rfl, rfl, nle rfl, nle rfl⟩, ?_⟩; conv => whnf) | fail)
    refine ⟨fun hne => ?_, fun hne => ?_⟩ <;> replace hne := nm hne <;> (try simp only [Int.toNat_zero] at hne) <;> (try simp only [Int.toNat_one] at hne)
    · obtain ⟨hc1, hc2⟩ := lns_cut hne
      have hb := bef_le 10 r
      rw [hc1, scanL] at hI
      conv => whnf
      repeat (first | ((with_reducible first | apply ga | apply gb | apply gc | apply gd | apply ge | apply gf | apply gg | apply gh | apply gi | apply gj); conv => whnf) | (refine ⟨⟨rfl, rfl, nle rfl, nle rfl⟩, ?_⟩; conv => whnf) | fail)
      refine CallK.flat [] (f42 r (by unfold B62; omega) 10) ⟨.same, .same, trivial⟩ rfl ?_
      conv => whnf
      repeat (first | ((with_reducible first | apply ga | apply gb | apply gc | apply gd | apply ge | apply gf | apply gg | apply gh | apply gi | apply gj); conv => whnf) | (refine ⟨⟨rfl, rfl, nle rfl, nle rfl⟩, ?_⟩; conv => whnf) | fail)
      refine CallK.flat [] (f21 (bef 10 r) (by unfold B62; omega)) ⟨.same, trivial⟩ rfl ?_
      conv => whnf
      repeat (first | ((with_reducible first | apply ga | apply gb | apply gc | apply gd | apply ge | apply gf | apply gg | apply gh | apply gi | apply gj); conv => whnf) | (refine ⟨⟨rfl, rfl, nle rfl, nle rfl⟩, ?_⟩; conv => whnf) | fail)
      refine ⟨fun he => ?_, fun he => ?_⟩ <;> replace he := nm he <;> (try simp only [Int.toNat_zero] at he) <;> (try simp only [Int.toNat_one] at he)
      · rw [if_pos he] at hI
        conv => whnf
        repeat (first | ((with_reducible first | apply ga | apply gb | apply gc | apply gd | apply ge | apply gf | apply gg | apply gh | apply gi | apply gj); conv => whnf) | (refine ⟨⟨rfl, rfl, nle rfl, nle rfl⟩, ?_⟩; conv => whnf) | fail)
        refine ⟨⟨by unfold inI64; omega⟩, ?_⟩
        conv => whnf
        repeat (first | ((with_reducible first | apply ga | apply gb | apply gc | apply gd | apply ge | apply gf | apply gg | apply gh | apply gi | apply gj); conv => whnf) | (refine ⟨⟨rfl, rfl, nle rfl, nle rfl⟩, ?_⟩; conv => whnf) | fail)
        rw [hI]
        exact done_tup [.pv (linesP []), i64 (L.length + 1), i64 (scan (bef 10 r)).2.2] [] rfl ⟨VLe.nilA, .same, .same, trivial⟩
      · rw [if_neg (by omega)] at hI
        conv => whnf
        repeat (first | ((with_reducible first | apply ga | apply gb | apply gc | apply gd | apply ge | apply gf | apply gg | apply gh | apply gi | apply gj); conv => whnf) | (refine ⟨⟨rfl, rfl, nle rfl, nle rfl⟩, ?_⟩; conv => whnf) | fail)
        refine ⟨⟨⟨rfl, rfl, rfl, nle rfl⟩, rfl, rfl, rfl, rfl, rfl, rfl, show (L.length + 1) * 64 ≤ 140737488355328 by omega⟩, ?_⟩
        conv => whnf
        repeat (first | ((with_reducible first | apply ga | apply gb | apply gc | apply gd | apply ge | apply gf | apply gg | apply gh | apply gi | apply gj); conv => whnf) | (refine ⟨⟨rfl, rfl, nle rfl, nle rfl⟩, ?_⟩; conv => whnf) | fail)
        refine ⟨(aft 10 r, L ++ [(scan (bef 10 r)).1], g + 1), ⟨by dsimp only; rw [List.length_append, List.length_singleton]; omega, by dsimp only; exact hI⟩, SubS.mkN [] [(1005, 1005)] rfl rfl rfl ⟨⟨_, rfl, .same⟩, ⟨_, rfl, .row _ _ _ _ _ _ _ _ _ rfl rfl rfl (by simp)⟩, trivial⟩ ⟨.inl ⟨_, _, rfl, rfl, rfl, OLe.snocA rfl rfl rfl rfl rfl fun j hj => ?_⟩, trivial⟩, by dsimp only; omega⟩
        match j, hj with
        | 0, _ => exact .same
        | 1, _ => exact .same
        | 2, _ => exact .same
        | 3, _ => exact .same
        | 4, _ => exact .same
    · have hn : r = [] := by simpa using hne
      subst hn
      conv => whnf
      repeat (first | ((with_reducible first | apply ga | apply gb | apply gc | apply gd | apply ge | apply gf | apply gg | apply gh | apply gi | apply gj); conv => whnf) | (refine ⟨⟨rfl, rfl, nle rfl, nle rfl⟩, ?_⟩; conv => whnf) | fail)
      rw [hI]
      exact done_tup [.pv (linesP L), i64 0, i64 0] [1005] rfl ⟨VLe.frzA rfl rfl rfl, .same, .same, trivial⟩
theorem lnsF_len : ∀ (s cur : List UInt8), (lnsF cur s).length ≤ s.length + 1
  | [], cur => by simp only [lnsF]; split <;> simp
  | c :: s, cur => by
    simp only [lnsF]
    split
    · have := lnsF_len s []; simp; omega
    · have := lnsF_len s (cur ++ [c]); simp; omega
theorem lnsF_bd : ∀ (s cur x : List UInt8), x ∈ lnsF cur s → x.length ≤ cur.length + s.length
  | [], cur, x, h => by
    simp only [lnsF] at h
    split at h
    · cases h
    · simp only [List.mem_singleton] at h; subst h; simp
  | c :: s, cur, x, h => by
    simp only [lnsF] at h
    split at h
    · rcases List.mem_cons.mp h with rfl | h
      · simp
      · have := lnsF_bd s [] x h; simp at this ⊢; omega
    · have := lnsF_bd s (cur ++ [c]) x h; simp at this ⊢; omega
theorem lns_bd (s : List UInt8) : (lns s).length ≤ s.length + 1 ∧ ∀ x ∈ lns s, x.length ≤ s.length :=
  ⟨lnsF_len s [], fun x hx => by have := lnsF_bd s [] x hx; simpa using this⟩
set_option maxHeartbeats 1000000 in
theorem f29 (s : List UInt8) (hs : B62 s) : PureCall Tryd.prog 29 [st s] (allT (scanAll s)) := by
  unfold B62 at hs
  refine PureCall.run tab_ok mixed (by kernel_rfl) Tryd.func29 rfl rfl rfl ?_
  conv => whnf
  repeat (first | ((with_reducible first | apply ga | apply gb | apply gc | apply gd | apply ge | apply gf | apply gg | apply gh | apply gi | apply gj); conv => whnf) | (refine ⟨⟨rfl, rfl, nle rfl, nle rfl⟩, ?_⟩; conv => whnf) | fail)
  refine ⟨fun hL => ?_, fun hL => ?_⟩ <;> replace hL := nm hL <;> (try simp only [Int.toNat_zero] at hL) <;> (try simp only [Int.toNat_one] at hL)
  · conv => whnf
    repeat (first | ((with_reducible first | apply ga | apply gb | apply gc | apply gd | apply ge | apply gf | apply gg | apply gh | apply gi | apply gj); conv => whnf) | (refine ⟨⟨rfl, rfl, nle rfl, nle rfl⟩, ?_⟩; conv => whnf) | fail)
    rw [show scanAll s = ([], 0, 4) by unfold scanAll; rw [if_pos hL]]
    exact done_tup [.pv (linesP []), i64 0, i64 4] [] rfl ⟨VLe.nilA, .same, .same, trivial⟩
  · have hsc : scanAll s = scanL (lns s) [] := by unfold scanAll; rw [if_neg (by omega)]
    conv => whnf
    repeat (first | ((with_reducible first | apply ga | apply gb | apply gc | apply gd | apply ge | apply gf | apply gg | apply gh | apply gi | apply gj); conv => whnf) | (refine ⟨⟨rfl, rfl, nle rfl, nle rfl⟩, ?_⟩; conv => whnf) | fail)
    refine CallK.drop [] (f49 s (by omega)) ⟨.same, trivial⟩ ?_
    conv => whnf
    repeat (first | ((with_reducible first | apply ga | apply gb | apply gc | apply gd | apply ge | apply gf | apply gg | apply gh | apply gi | apply gj); conv => whnf) | (refine ⟨⟨rfl, rfl, nle rfl, nle rfl⟩, ?_⟩; conv => whnf) | fail)
    obtain ⟨N, hN⟩ : ∃ N, lns s = N := ⟨_, rfl⟩
    have hNl : N.length ≤ 65537 ∧ ∀ x ∈ N, x.length ≤ 65536 := by
      rw [← hN]
      obtain ⟨h1, h2⟩ := lns_bd s
      exact ⟨by omega, fun x hx => by have := h2 x hx; omega⟩
    rw [hN] at hsc ⊢
    refine ex_loop tab_ok mixed (fun x : Nat × List Line × Nat => x.1 ≤ N.length ∧ x.2.1.length = x.1 ∧ scanAll s = scanL (N.drop x.1) x.2.1) (fun x => mkSt 41 [(0, st s), (6, .pv (strsP N)), (7, i64 x.1), (5, .row 1005 x.2.2 5 0 x.2.1.length)] [(1005, rowA 32 5 Line.p lz x.2.2 x.2.1)]) (fun x => N.length - x.1) (0, [], 0) ⟨Nat.zero_le _, rfl, hsc⟩ (SubS.mkN [] [] rfl rfl rfl ⟨⟨_, rfl, .same⟩, ⟨_, rfl, .same⟩, ⟨_, rfl, .same⟩, ⟨_, rfl, .void _ _ _⟩, trivial⟩ ⟨.inr ⟨rfl, rfl⟩, trivial⟩) ?_
    rintro ⟨i, L, g⟩ ⟨hi, hLi, hI⟩
    dsimp only at hi hLi hI ⊢
    conv => whnf
    repeat (first | ((with_reducible first | apply ga | apply gb | apply gc | apply gd | apply ge | apply gf | apply gg | apply gh | apply gi | apply gj); conv => whnf) | (refine ⟨⟨rfl, rfl, nle rfl, nle rfl⟩, ?_⟩; conv => whnf) | fail)
    refine ⟨fun hc => ?_, fun hc => ?_⟩ <;> replace hc := nm hc <;> (try simp only [Int.toNat_zero] at hc) <;> (try simp only [Int.toNat_one] at hc)
    · have hlt : i < N.length := by omega
      rw [drop_getD (d := []) hlt, scanL] at hI
      have hx : N.getD i [] ∈ N := by rw [List.getD_eq_getElem?_getD, List.getElem?_eq_getElem hlt]; exact List.getElem_mem hlt
      conv => whnf
      repeat (first | ((with_reducible first | apply ga | apply gb | apply gc | apply gd | apply ge | apply gf | apply gg | apply gh | apply gi | apply gj); conv => whnf) | (refine ⟨⟨rfl, rfl, nle rfl, nle rfl⟩, ?_⟩; conv => whnf) | fail)
      refine ⟨⟨by omega, by omega, rfl⟩, ?_⟩
      conv => whnf
      repeat (first | ((with_reducible first | apply ga | apply gb | apply gc | apply gd | apply ge | apply gf | apply gg | apply gh | apply gi | apply gj); conv => whnf) | (refine ⟨⟨rfl, rfl, nle rfl, nle rfl⟩, ?_⟩; conv => whnf) | fail)
      refine ⟨⟨by decide⟩, ?_⟩
      conv => whnf
      repeat (first | ((with_reducible first | apply ga | apply gb | apply gc | apply gd | apply ge | apply gf | apply gg | apply gh | apply gi | apply gj); conv => whnf) | (refine ⟨⟨rfl, rfl, nle rfl, nle rfl⟩, ?_⟩; conv => whnf) | fail)
      refine CallK.flat [] (f22 (N.getD i []) (by have := hNl.2 _ hx; unfold B62; omega)) ⟨.same, trivial⟩ rfl ?_
      conv => whnf
      repeat (first | ((with_reducible first | apply ga | apply gb | apply gc | apply gd | apply ge | apply gf | apply gg | apply gh | apply gi | apply gj); conv => whnf) | (refine ⟨⟨rfl, rfl, nle rfl, nle rfl⟩, ?_⟩; conv => whnf) | fail)
      refine ⟨fun he => ?_, fun he => ?_⟩ <;> replace he := nm he <;> (try simp only [Int.toNat_zero] at he) <;> (try simp only [Int.toNat_one] at he)
      · rw [if_pos he] at hI
        conv => whnf
        repeat (first | ((with_reducible first | apply ga | apply gb | apply gc | apply gd | apply ge | apply gf | apply gg | apply gh | apply gi | apply gj); conv => whnf) | (refine ⟨⟨rfl, rfl, nle rfl, nle rfl⟩, ?_⟩; conv => whnf) | fail)
        refine ⟨⟨by unfold inI64; omega⟩, ?_⟩
        conv => whnf
        repeat (first | ((with_reducible first | apply ga | apply gb | apply gc | apply gd | apply ge | apply gf | apply gg | apply gh | apply gi | apply gj); conv => whnf) | (refine ⟨⟨rfl, rfl, nle rfl, nle rfl⟩, ?_⟩; conv => whnf) | fail)
        rw [hI]
        exact done_tup [.pv (linesP []), i64 (L.length + 1), i64 (scan (N.getD i [])).2.2] [] rfl ⟨VLe.nilA, .int (by rw [hLi]), .same, trivial⟩
      · rw [if_neg (by simpa using he)] at hI
        conv => whnf
        repeat (first | ((with_reducible first | apply ga | apply gb | apply gc | apply gd | apply ge | apply gf | apply gg | apply gh | apply gi | apply gj); conv => whnf) | (refine ⟨⟨rfl, rfl, nle rfl, nle rfl⟩, ?_⟩; conv => whnf) | fail)
        refine ⟨⟨⟨rfl, rfl, rfl, nle rfl⟩, rfl, rfl, rfl, rfl, rfl, rfl, show (L.length + 1) * 64 ≤ 140737488355328 by omega⟩, ?_⟩
        conv => whnf
        repeat (first | ((with_reducible first | apply ga | apply gb | apply gc | apply gd | apply ge | apply gf | apply gg | apply gh | apply gi | apply gj); conv => whnf) | (refine ⟨⟨rfl, rfl, nle rfl, nle rfl⟩, ?_⟩; conv => whnf) | fail)
        refine ⟨⟨by unfold inI64; omega⟩, ?_⟩
        conv => whnf
        repeat (first | ((with_reducible first | apply ga | apply gb | apply gc | apply gd | apply ge | apply gf | apply gg | apply gh | apply gi | apply gj); conv => whnf) | (refine ⟨⟨rfl, rfl, nle rfl, nle rfl⟩, ?_⟩; conv => whnf) | fail)
        refine ⟨(i + 1, L ++ [(scan (N.getD i [])).1], g + 1), ⟨hlt, by dsimp only; rw [List.length_append, List.length_singleton]; omega, by dsimp only; exact hI⟩, SubS.mkN [] [(1005, 1005)] rfl rfl rfl ⟨⟨_, rfl, .same⟩, ⟨_, rfl, .same⟩, ⟨_, rfl, .same⟩, ⟨_, rfl, .row _ _ _ _ _ _ _ _ _ rfl rfl rfl (by simp)⟩, trivial⟩ ⟨.inl ⟨_, _, rfl, rfl, rfl, OLe.snocA rfl rfl rfl rfl rfl fun j hj => ?_⟩, trivial⟩, by dsimp only; omega⟩
        match j, hj with
        | 0, _ => exact .same
        | 1, _ => exact .same
        | 2, _ => exact .same
        | 3, _ => exact .same
        | 4, _ => exact .same
    · have hn : i = N.length := by omega
      rw [hn, List.drop_length] at hI
      conv => whnf
      repeat (first | ((with_reducible first | apply ga | apply gb | apply gc | apply gd | apply ge | apply gf | apply gg | apply gh | apply gi | apply gj); conv => whnf) | (refine ⟨⟨rfl, rfl, nle rfl, nle rfl⟩, ?_⟩; conv => whnf) | fail)
      rw [hI]
      exact done_tup [.pv (linesP L), i64 0, i64 0] [1005] rfl ⟨VLe.frzA rfl rfl rfl, .same, .same, trivial⟩
/-- The same list twice. -/
theorem f30 (L : List Line) (hL : L.length < 2 ^ 40) : PureCall Tryd.prog 30 [.pv (linesP L), .pv (linesP L)] (bb true) := by
  refine PureCall.run tab_ok mixed (by kernel_rfl) Tryd.func30 rfl rfl rfl ?_
  conv => whnf
  repeat (first | ((with_reducible first | apply ga | apply gb | apply gc | apply gd | apply ge | apply gf | apply gg | apply gh | apply gi | apply gj); conv => whnf) | (refine ⟨⟨rfl, rfl, nle rfl, nle rfl⟩, ?_⟩; conv => whnf) | fail)
  refine ⟨fun h => absurd h (by simp), fun _ => ?_⟩
  conv => whnf
  repeat (first | ((with_reducible first | apply ga | apply gb | apply gc | apply gd | apply ge | apply gf | apply gg | apply gh | apply gi | apply gj); conv => whnf) | (refine ⟨⟨rfl, rfl, nle rfl, nle rfl⟩, ?_⟩; conv => whnf) | fail)
  refine ex_loop tab_ok mixed (fun i : Nat => i ≤ L.length) (fun i => mkSt 26 [(0, .pv (linesP L)), (1, .pv (linesP L)), (5, i64 i)] []) (fun i => L.length - i) 0 (Nat.zero_le _) (SubS.mk [] rfl ⟨⟨_, rfl, .same⟩, ⟨_, rfl, .same⟩, ⟨_, rfl, .same⟩, trivial⟩ trivial) ?_
  intro i hi
  conv => whnf
  repeat (first | ((with_reducible first | apply ga | apply gb | apply gc | apply gd | apply ge | apply gf | apply gg | apply gh | apply gi | apply gj); conv => whnf) | (refine ⟨⟨rfl, rfl, nle rfl, nle rfl⟩, ?_⟩; conv => whnf) | fail)
  refine ⟨fun hc => ?_, fun hc => ?_⟩ <;> replace hc := nm hc <;> (try simp only [Int.toNat_zero] at hc) <;> (try simp only [Int.toNat_one] at hc)
  · conv => whnf
    repeat (first | ((with_reducible first | apply ga | apply gb | apply gc | apply gd | apply ge | apply gf | apply gg | apply gh | apply gi | apply gj); conv => whnf) | (refine ⟨⟨rfl, rfl, nle rfl, nle rfl⟩, ?_⟩; conv => whnf) | fail)
    refine ⟨⟨by omega, by omega, rfl⟩, ?_⟩
    conv => whnf
    repeat (first | ((with_reducible first | apply ga | apply gb | apply gc | apply gd | apply ge | apply gf | apply gg | apply gh | apply gi | apply gj); conv => whnf) | (refine ⟨⟨rfl, rfl, nle rfl, nle rfl⟩, ?_⟩; conv => whnf) | fail)
    refine ⟨⟨by decide⟩, ?_⟩
    conv => whnf
    repeat (first | ((with_reducible first | apply ga | apply gb | apply gc | apply gd | apply ge | apply gf | apply gg | apply gh | apply gi | apply gj); conv => whnf) | (refine ⟨⟨rfl, rfl, nle rfl, nle rfl⟩, ?_⟩; conv => whnf) | fail)
    refine ⟨⟨by omega, by omega, rfl⟩, ?_⟩
    conv => whnf
    repeat (first | ((with_reducible first | apply ga | apply gb | apply gc | apply gd | apply ge | apply gf | apply gg | apply gh | apply gi | apply gj); conv => whnf) | (refine ⟨⟨rfl, rfl, nle rfl, nle rfl⟩, ?_⟩; conv => whnf) | fail)
    refine ⟨⟨by decide⟩, ?_⟩
    conv => whnf
    repeat (first | ((with_reducible first | apply ga | apply gb | apply gc | apply gd | apply ge | apply gf | apply gg | apply gh | apply gi | apply gj); conv => whnf) | (refine ⟨⟨rfl, rfl, nle rfl, nle rfl⟩, ?_⟩; conv => whnf) | fail)
    refine ⟨rfl, ?_⟩
    conv => whnf
    repeat (first | ((with_reducible first | apply ga | apply gb | apply gc | apply gd | apply ge | apply gf | apply gg | apply gh | apply gi | apply gj); conv => whnf) | (refine ⟨⟨rfl, rfl, nle rfl, nle rfl⟩, ?_⟩; conv => whnf) | fail)
    refine ⟨fun h => absurd h (by simp), fun _ => ?_⟩
    conv => whnf
    repeat (first | ((with_reducible first | apply ga | apply gb | apply gc | apply gd | apply ge | apply gf | apply gg | apply gh | apply gi | apply gj); conv => whnf) | (refine ⟨⟨rfl, rfl, nle rfl, nle rfl⟩, ?_⟩; conv => whnf) | fail)
    refine ⟨⟨by unfold inI64; omega⟩, ?_⟩
    conv => whnf
    repeat (first | ((with_reducible first | apply ga | apply gb | apply gc | apply gd | apply ge | apply gf | apply gg | apply gh | apply gi | apply gj); conv => whnf) | (refine ⟨⟨rfl, rfl, nle rfl, nle rfl⟩, ?_⟩; conv => whnf) | fail)
    exact ⟨i + 1, by omega, SubS.mk [] rfl ⟨⟨_, rfl, .same⟩, ⟨_, rfl, .same⟩, ⟨_, rfl, .same⟩, trivial⟩ trivial, by omega⟩
  · conv => whnf
    repeat (first | ((with_reducible first | apply ga | apply gb | apply gc | apply gd | apply ge | apply gf | apply gg | apply gh | apply gi | apply gj); conv => whnf) | (refine ⟨⟨rfl, rfl, nle rfl, nle rfl⟩, ?_⟩; conv => whnf) | fail)
    exact done_bool _ _ rfl rfl rfl
theorem scanL_len : ∀ (N : List (List UInt8)) (acc : List Line), (scanL N acc).1.length ≤ N.length + acc.length
  | [], acc => by simp [scanL]
  | x :: xs, acc => by
    simp only [scanL]
    split
    · simp
    · have := scanL_len xs (acc ++ [(scan x).1]); simp at this ⊢; omega
theorem scanAll_len (s : List UInt8) : (scanAll s).1.length ≤ 65537 := by
  unfold scanAll
  split
  · simp
  · have := scanL_len (lns s) []
    have := (lns_bd s).1
    simp at *; omega
theorem f10 (s : List UInt8) (hs : B62 s) : PureCall Tryd.prog 10 [st s] (bb true) := by
  refine PureCall.run tab_ok mixed (by kernel_rfl) Tryd.func10 rfl rfl rfl ?_
  conv => whnf
  repeat (first | ((with_reducible first | apply ga | apply gb | apply gc | apply gd | apply ge | apply gf | apply gg | apply gh | apply gi | apply gj); conv => whnf) | (refine ⟨⟨rfl, rfl, nle rfl, nle rfl⟩, ?_⟩; conv => whnf) | fail)
  refine CallK.drop [] (f28 s hs) ⟨.same, trivial⟩ ?_
  conv => whnf
  repeat (first | ((with_reducible first | apply ga | apply gb | apply gc | apply gd | apply ge | apply gf | apply gg | apply gh | apply gi | apply gj); conv => whnf) | (refine ⟨⟨rfl, rfl, nle rfl, nle rfl⟩, ?_⟩; conv => whnf) | fail)
  refine CallK.drop [] (f29 s hs) ⟨.same, trivial⟩ ?_
  conv => whnf
  repeat (first | ((with_reducible first | apply ga | apply gb | apply gc | apply gd | apply ge | apply gf | apply gg | apply gh | apply gi | apply gj); conv => whnf) | (refine ⟨⟨rfl, rfl, nle rfl, nle rfl⟩, ?_⟩; conv => whnf) | fail)
  repeat (first | ((with_reducible first | apply ga | apply gb | apply gc | apply gd | apply ge | apply gf | apply gg | apply gh | apply gi | apply gj); conv => whnf) | (refine ⟨⟨rfl, rfl, nle rfl, nle rfl⟩, ?_⟩; conv => whnf) | (refine CallK.flat [] (f30 (scanAll s).1 (by have := scanAll_len s; omega)) ⟨.same, .same, trivial⟩ rfl ?_; conv => whnf) | (refine CallK.flat [] f18 trivial rfl ?_; conv => whnf) | (refine ⟨fun _ => ?_, fun h => absurd h (by simp)⟩; conv => whnf) | fail)
  exact done_bool _ _ rfl rfl rfl
end Go.Proofs.YtdoeiccibhabcaaDoor

namespace Go.Proofs.YtdoeiccibhabcaaDoor
open Go Go.AM
attribute [local irreducible] AWP CallK PureCall SubS HeapCall
/-- The fields' texts. -/
def ftx : List UInt8 → List UInt8 → List (List UInt8)
  | cur, [] => if cur == [] then [] else [cur]
  | cur, c :: s => if blank c then (if cur == [] then ftx [] s else cur :: ftx [] s) else ftx (cur ++ [c]) s
theorem flds_ftx : ∀ (s : List UInt8) (o : Nat) (cur : List UInt8), (flds o cur s).map (·.2) = ftx cur s
  | [], o, cur => by simp only [flds, ftx]; split <;> rfl
  | c :: s, o, cur => by
    simp only [flds, ftx]
    split
    · split
      · exact flds_ftx s _ _
      · rw [List.map_cons, flds_ftx s]
    · exact flds_ftx s _ _
theorem scanF_txt : ∀ (ps qs : List (Nat × List UInt8)) (m : Nat) (l l' : Line), ps.map (·.2) = qs.map (·.2) → scanF ps m l = (l', 0, 0) → scanF qs m l = (l', 0, 0)
  | [], [], m, l, l', _, h => h
  | [], q :: qs, m, l, l', h, _ => by simp at h
  | p :: ps, [], m, l, l', h, _ => by simp at h
  | p :: ps, q :: qs, m, l, l', h, h2 => by
    simp only [List.map_cons, List.cons.injEq] at h
    rw [scanF] at h2 ⊢
    rw [← h.1]
    split at h2
    · rename_i h3
      rw [if_pos h3]
      split at h2
      · rename_i h4
        rw [if_pos h4]
        exact scanF_txt ps qs _ _ _ h.2 h2
      · have := congrArg (fun x => x.2.2) h2
        exact absurd (show (5 : Int) = 0 from this) (by decide)
    · rename_i h3
      rw [if_neg h3]
      split at h2
      · rename_i h4
        rw [if_pos h4]
        split at h2
        · rename_i h5
          have := congrArg (fun x => x.2.2) h2
          exact absurd this h5
        · rename_i h5
          rw [if_neg h5]
          exact scanF_txt ps qs _ _ _ h.2 h2
      · have := congrArg (fun x => x.2.2) h2
        exact absurd (show (5 : Int) = 0 from this) (by decide)
def dbl (c : UInt8) : List UInt8 := if blank c then [c, 32] else [c]
def wide (s : List UInt8) : List UInt8 := s.flatMap dbl
theorem ftx_wide : ∀ (s cur : List UInt8), ftx cur (wide s) = ftx cur s
  | [], cur => rfl
  | c :: s, cur => by
    have ih := ftx_wide s
    unfold wide at ih ⊢
    rw [List.flatMap_cons]
    unfold dbl
    cases hb : blank c with
    | true =>
      have h32 : blank 32 = true := rfl
      have hn : (([] : List UInt8) == []) = true := rfl
      simp only [if_true, List.cons_append, List.nil_append, ftx, hb, h32, hn]
      have e : List.flatMap (fun c => if blank c = true then [c, 32] else [c]) s = s.flatMap dbl := rfl
      rw [e, ih]
    | false =>
      simp only [Bool.false_eq_true, if_false, List.cons_append, List.nil_append, ftx, hb]
      exact ih _
theorem ftx_blanks {t : List UInt8} (ht : ∀ c ∈ t, blank c = true) : ∀ (s cur : List UInt8), ftx cur (s ++ t) = ftx cur s
  | [], cur => by
    rw [List.nil_append]
    have key : ∀ t : List UInt8, (∀ c ∈ t, blank c = true) → ftx [] t = [] := by
      intro t
      induction t with
      | nil => intro _; rfl
      | cons d t ih =>
        intro h
        have hd := h d (by simp)
        have hn : (([] : List UInt8) == []) = true := rfl
        simp only [ftx, hd, if_true, hn]
        exact ih fun c hc => h c (by simp [hc])
    cases t with
    | nil => rfl
    | cons d t =>
      have hd := ht d (by simp)
      have := key t fun c hc => ht c (by simp [hc])
      simp only [ftx, hd, if_true, this]
  | c :: s, cur => by
    simp only [List.cons_append, ftx, ftx_blanks ht s]
theorem bef_wide : ∀ s : List UInt8, bef 35 (wide s) = wide (bef 35 s)
  | [] => rfl
  | c :: s => by
    have ih := bef_wide s
    unfold wide at ih ⊢
    rw [List.flatMap_cons]
    by_cases hc : c = 35
    · subst hc; rfl
    · have e : bef 35 (c :: s) = c :: bef 35 s := by simp [bef, hc]
      rw [e, List.flatMap_cons, ← ih]
      have e2 : ∀ r : List UInt8, bef 35 (c :: r) = c :: bef 35 r := fun r => by simp [bef, hc]
      have e3 : ∀ r : List UInt8, bef 35 (32 :: r) = 32 :: bef 35 r := fun r => by simp [bef]
      unfold dbl
      split
      · simp only [List.cons_append, List.nil_append, e2, e3]
      · simp only [List.cons_append, List.nil_append, e2]
theorem nx_wide (s : List UInt8) : nx (wide s) = nx s := by
  cases s with
  | nil => rfl
  | cons c s =>
    unfold wide
    rw [List.flatMap_cons]
    unfold dbl nx
    split <;> rfl
theorem scan_txt {s t : List UInt8} {l : Line} (h : scan s = (l, 0, 0)) (ht : t.length ≤ 120) (hf : ftx [] (bef 35 t) = ftx [] (bef 35 s)) (hn : nx (bef 35 t) = nx (bef 35 s)) : scan t = (l, 0, 0) := by
  unfold scan at h ⊢
  rw [if_neg (by omega), hn]
  split at h
  · have := congrArg (fun x => x.2.2) h
    exact absurd (show (4 : Int) = 0 from this) (by decide)
  · exact scanF_txt _ _ _ _ _ (by unfold fl; rw [List.drop_zero, List.drop_zero, flds_ftx, flds_ftx, hf]) h
theorem scan_wide {s : List UInt8} {l : Line} (h : scan s = (l, 0, 0)) (ht : (wide s).length ≤ 120) : scan (wide s) = (l, 0, 0) :=
  scan_txt h ht (by rw [bef_wide, ftx_wide]) (by rw [bef_wide, nx_wide])
theorem bef_app {c : UInt8} : ∀ (s t : List UInt8), bef c (s ++ t) = if s.contains c then bef c s else s ++ bef c t
  | [], t => by simp
  | d :: s, t => by
    have ih := bef_app (c := c) s t
    by_cases h : d = c
    · subst h; simp [bef]
    · have hne : (c == d) = false := by simpa using Ne.symm h
      have e : ∀ r : List UInt8, bef c (d :: r) = d :: bef c r := fun r => by simp [bef, h]
      rw [List.cons_append, e, e, ih, List.contains_cons, hne, Bool.false_or]
      split <;> simp
theorem scan_end {s t : List UInt8} {l : Line} (h : scan s = (l, 0, 0)) (hl : (s ++ t).length ≤ 120) (ht : ∀ c ∈ bef 35 t, blank c = true) : scan (s ++ t) = (l, 0, 0) := by
  refine scan_txt h hl ?_ ?_
  · rw [bef_app]
    split
    · rfl
    · rename_i hc
      rw [ftx_blanks ht, (bef_all (s := s) (by simpa using hc)).1]
  · rw [bef_app]
    split
    · rfl
    · rename_i hc
      rw [(bef_all (s := s) (by simpa using hc)).1]
      cases s with
      | cons c s => rfl
      | nil =>
        rw [List.nil_append]
        cases hb : bef 35 t with
        | nil => rfl
        | cons d r =>
          have := ht d (by rw [hb]; simp)
          unfold nx
          simp [this]
/-- Blanks at the end, k times two. -/
def tail : Nat → List UInt8
  | 0 => []
  | k + 1 => tail k ++ [9, 32]
theorem tail_len (k : Nat) : (tail k).length = 2 * k := by
  induction k with
  | zero => rfl
  | succ k ih => rw [tail, List.length_append, ih]; simp; omega
theorem tail_blank (k : Nat) : ∀ c ∈ tail k, blank c = true := by
  induction k with
  | zero => intro c hc; cases hc
  | succ k ih =>
    intro c hc
    rw [tail] at hc
    rcases List.mem_append.mp hc with hc | hc
    · exact ih c hc
    · simp only [List.mem_cons, List.not_mem_nil, or_false] at hc
      rcases hc with rfl | rfl <;> rfl
theorem tail_bef (k : Nat) (r : List UInt8) : ∀ c ∈ bef 35 (tail k ++ (35 :: r)), blank c = true := by
  intro c hc
  rw [bef_app] at hc
  split at hc
  · rename_i h
    exact absurd (tail_blank k 35 (by simpa using h)) (by decide)
  · simp only [bef, List.takeWhile_cons, bne_self_eq_false, Bool.false_eq_true, if_false, List.append_nil] at hc
    exact tail_blank k c hc
theorem tail_bef0 (k : Nat) : ∀ c ∈ bef 35 (tail k), blank c = true := by
  intro c hc
  have := (List.takeWhile_prefix (l := tail k) (· != (35 : UInt8))).subset hc
  exact tail_blank k c this
def bcell (c : UInt8) (_ : Nat) : PV := .int .u8 c.toNat
def bytesO (g : Nat) (L : List UInt8) : AO := rowA 5 1 bcell 0 g L
theorem bytes_str {L : List UInt8} {f : Nat → Nat → AV} {n : Nat} (hn : n = L.length) (hf : ∀ i, i < L.length → f i 0 = .pv (bcell (L.getD i 0) 0)) : (List.range n).map (fun i => (f (0 + i) 0).byte) = L := by
  subst hn
  apply List.ext_getElem
  · simp
  · intro i h1 h2
    have := hf i h2
    simp only [List.getElem_map, List.getElem_range, Nat.zero_add, this]
    simp [bcell, AV.byte, PV.byte, h2]
set_option maxHeartbeats 1000000 in
theorem f25 (s : List UInt8) (hs : s.length < 2 ^ 40) : PureCall Tryd.prog 25 [st s] (st (wide s)) := by
  refine PureCall.run tab_ok mixed (by kernel_rfl) Tryd.func25 rfl rfl rfl ?_
  conv => whnf
  repeat (first | ((with_reducible first | apply ga | apply gb | apply gc | apply gd | apply ge | apply gf | apply gg | apply gh | apply gi | apply gj); conv => whnf) | (refine ⟨⟨rfl, rfl, nle rfl, nle rfl⟩, ?_⟩; conv => whnf) | fail)
  refine ex_loop tab_ok mixed (fun x : Nat × List UInt8 × Nat => x.1 ≤ s.length ∧ x.2.1.length ≤ 2 * x.1 ∧ x.2.1 ++ wide (s.drop x.1) = wide s) (fun x => mkSt 32 [(0, st s), (3, .row 1003 x.2.2 1 0 x.2.1.length), (4, i64 x.1)] [(1003, bytesO x.2.2 x.2.1)]) (fun x => s.length - x.1) (0, [], 0) ⟨Nat.zero_le _, Nat.zero_le _, rfl⟩ (SubS.mkN [] [] rfl rfl rfl ⟨⟨_, rfl, .same⟩, ⟨_, rfl, .void _ _ _⟩, ⟨_, rfl, .same⟩, trivial⟩ ⟨.inr ⟨rfl, rfl⟩, trivial⟩) ?_
  rintro ⟨i, L, g⟩ ⟨hi, hLi, hL⟩
  dsimp only at hi hLi hL ⊢
  conv => whnf
  repeat (first | ((with_reducible first | apply ga | apply gb | apply gc | apply gd | apply ge | apply gf | apply gg | apply gh | apply gi | apply gj); conv => whnf) | (refine ⟨⟨rfl, rfl, nle rfl, nle rfl⟩, ?_⟩; conv => whnf) | fail)
  refine ⟨fun hc => ?_, fun hc => ?_⟩ <;> replace hc := nm hc <;> (try simp only [Int.toNat_zero] at hc) <;> (try simp only [Int.toNat_one] at hc)
  · have hlt : i < s.length := by omega
    have hst : wide (s.drop i) = dbl (s.getD i 0) ++ wide (s.drop (i + 1)) := by
      unfold wide; rw [getD_drop hlt, List.flatMap_cons]
    rw [hst] at hL
    conv => whnf
    repeat (first | ((with_reducible first | apply ga | apply gb | apply gc | apply gd | apply ge | apply gf | apply gg | apply gh | apply gi | apply gj); conv => whnf) | (refine ⟨⟨rfl, rfl, nle rfl, nle rfl⟩, ?_⟩; conv => whnf) | fail)
    refine ⟨⟨by omega, by omega⟩, ?_⟩
    conv => whnf
    repeat (first | ((with_reducible first | apply ga | apply gb | apply gc | apply gd | apply ge | apply gf | apply gg | apply gh | apply gi | apply gj); conv => whnf) | (refine ⟨⟨rfl, rfl, nle rfl, nle rfl⟩, ?_⟩; conv => whnf) | fail)
    rw [show ((i : Int)).toNat = i from Int.toNat_natCast _]
    refine ⟨⟨⟨rfl, rfl, rfl, nle rfl⟩, rfl, rfl, rfl, rfl, rfl, rfl, show (L.length + 1) * 1 ≤ 140737488355328 by omega⟩, ?_⟩
    conv => whnf
    repeat (first | ((with_reducible first | apply ga | apply gb | apply gc | apply gd | apply ge | apply gf | apply gg | apply gh | apply gi | apply gj); conv => whnf) | (refine ⟨⟨rfl, rfl, nle rfl, nle rfl⟩, ?_⟩; conv => whnf) | fail)
    refine ⟨⟨by omega, by omega⟩, ?_⟩
    conv => whnf
    repeat (first | ((with_reducible first | apply ga | apply gb | apply gc | apply gd | apply ge | apply gf | apply gg | apply gh | apply gi | apply gj); conv => whnf) | (refine ⟨⟨rfl, rfl, nle rfl, nle rfl⟩, ?_⟩; conv => whnf) | fail)
    rw [show ((i : Int)).toNat = i from Int.toNat_natCast _]
    refine ⟨fun h32 => ?_, fun h32 => ?_⟩ <;> replace h32 := nm h32 <;> (try simp only [Int.toNat_zero] at h32) <;> (try simp only [Int.toNat_one] at h32)
    · conv => whnf
      repeat (first | ((with_reducible first | apply ga | apply gb | apply gc | apply gd | apply ge | apply gf | apply gg | apply gh | apply gi | apply gj); conv => whnf) | (refine ⟨⟨rfl, rfl, nle rfl, nle rfl⟩, ?_⟩; conv => whnf) | fail)
      refine ⟨⟨by omega, by omega⟩, ?_⟩
      conv => whnf
      repeat (first | ((with_reducible first | apply ga | apply gb | apply gc | apply gd | apply ge | apply gf | apply gg | apply gh | apply gi | apply gj); conv => whnf) | (refine ⟨⟨rfl, rfl, nle rfl, nle rfl⟩, ?_⟩; conv => whnf) | fail)
      rw [show ((i : Int)).toNat = i from Int.toNat_natCast _]
      refine ⟨fun h9 => ?_, fun h9 => ?_⟩ <;> replace h9 := nm h9 <;> (try simp only [Int.toNat_zero] at h9) <;> (try simp only [Int.toNat_one] at h9)
      · have hb : blank (s.getD i 0) = true := by unfold blank; rw [show ((s.getD i 0).toNat : Int) = 9 from h9]; rfl
        unfold dbl at hL
        rw [hb, if_pos rfl] at hL
        conv => whnf
        repeat (first | ((with_reducible first | apply ga | apply gb | apply gc | apply gd | apply ge | apply gf | apply gg | apply gh | apply gi | apply gj); conv => whnf) | (refine ⟨⟨rfl, rfl, nle rfl, nle rfl⟩, ?_⟩; conv => whnf) | fail)
        refine ⟨⟨⟨rfl, rfl, rfl, nle rfl⟩, rfl, rfl, rfl, rfl, rfl, rfl, show (L.length + 1 + 1) * 1 ≤ 140737488355328 by omega⟩, ?_⟩
        conv => whnf
        repeat (first | ((with_reducible first | apply ga | apply gb | apply gc | apply gd | apply ge | apply gf | apply gg | apply gh | apply gi | apply gj); conv => whnf) | (refine ⟨⟨rfl, rfl, nle rfl, nle rfl⟩, ?_⟩; conv => whnf) | fail)
        refine ⟨⟨by unfold inI64; omega⟩, ?_⟩
        conv => whnf
        repeat (first | ((with_reducible first | apply ga | apply gb | apply gc | apply gd | apply ge | apply gf | apply gg | apply gh | apply gi | apply gj); conv => whnf) | (refine ⟨⟨rfl, rfl, nle rfl, nle rfl⟩, ?_⟩; conv => whnf) | fail)
        refine ⟨(i + 1, L ++ [s.getD i 0] ++ [32], g + 1 + 1), ⟨by dsimp only; omega, by dsimp only; simp only [List.length_append, List.length_singleton]; omega, by dsimp only; rw [← hL]; simp⟩, SubS.mkN [] [(1003, 1003)] rfl rfl rfl ⟨⟨_, rfl, .same⟩, ⟨_, rfl, .row _ _ _ _ _ _ _ _ _ rfl rfl rfl (by simp)⟩, ⟨_, rfl, .same⟩, trivial⟩ ⟨.inl ⟨_, _, rfl, rfl, rfl, CellsA.row ?_ rfl rfl (by simp)⟩, trivial⟩, by dsimp only; omega⟩
        dsimp only
        refine CellsA.cat (CellsA.cat (fun _ _ _ _ => .same) rfl (CellsA.one ?_)) (show L.length + 1 = (L ++ [s.getD i 0]).length by simp) (CellsA.one ?_)
        · intro j hj
          match j, hj with
          | 0, _ => exact .same
        · intro j hj
          match j, hj with
          | 0, _ => exact .same
      · have hb : blank (s.getD i 0) = false := by
          unfold blank
          simp only [Bool.or_eq_false_iff, beq_eq_false_iff_ne]
          exact ⟨h32, h9⟩
        unfold dbl at hL
        rw [hb, if_neg (by decide)] at hL
        conv => whnf
        repeat (first | ((with_reducible first | apply ga | apply gb | apply gc | apply gd | apply ge | apply gf | apply gg | apply gh | apply gi | apply gj); conv => whnf) | (refine ⟨⟨rfl, rfl, nle rfl, nle rfl⟩, ?_⟩; conv => whnf) | fail)
        refine ⟨⟨by unfold inI64; omega⟩, ?_⟩
        conv => whnf
        repeat (first | ((with_reducible first | apply ga | apply gb | apply gc | apply gd | apply ge | apply gf | apply gg | apply gh | apply gi | apply gj); conv => whnf) | (refine ⟨⟨rfl, rfl, nle rfl, nle rfl⟩, ?_⟩; conv => whnf) | fail)
        refine ⟨(i + 1, L ++ [s.getD i 0], g + 1), ⟨by dsimp only; omega, by dsimp only; simp only [List.length_append, List.length_singleton]; omega, by dsimp only; rw [← hL]; simp⟩, SubS.mkN [] [(1003, 1003)] rfl rfl rfl ⟨⟨_, rfl, .same⟩, ⟨_, rfl, .row _ _ _ _ _ _ _ _ _ rfl rfl rfl (by simp)⟩, ⟨_, rfl, .same⟩, trivial⟩ ⟨.inl ⟨_, _, rfl, rfl, rfl, CellsA.row (CellsA.base.cat rfl (CellsA.one ?_)) rfl rfl (by simp)⟩, trivial⟩, by dsimp only; omega⟩
        intro j hj
        match j, hj with
        | 0, _ => exact .same
    · have hb : blank (s.getD i 0) = true := by unfold blank; rw [show ((s.getD i 0).toNat : Int) = 32 from h32]; rfl
      unfold dbl at hL
      rw [hb, if_pos rfl] at hL
      conv => whnf
      repeat (first | ((with_reducible first | apply ga | apply gb | apply gc | apply gd | apply ge | apply gf | apply gg | apply gh | apply gi | apply gj); conv => whnf) | (refine ⟨⟨rfl, rfl, nle rfl, nle rfl⟩, ?_⟩; conv => whnf) | fail)
      refine ⟨⟨⟨rfl, rfl, rfl, nle rfl⟩, rfl, rfl, rfl, rfl, rfl, rfl, show (L.length + 1 + 1) * 1 ≤ 140737488355328 by omega⟩, ?_⟩
      conv => whnf
      repeat (first | ((with_reducible first | apply ga | apply gb | apply gc | apply gd | apply ge | apply gf | apply gg | apply gh | apply gi | apply gj); conv => whnf) | (refine ⟨⟨rfl, rfl, nle rfl, nle rfl⟩, ?_⟩; conv => whnf) | fail)
      refine ⟨⟨by unfold inI64; omega⟩, ?_⟩
      conv => whnf
      repeat (first | ((with_reducible first | apply ga | apply gb | apply gc | apply gd | apply ge | apply gf | apply gg | apply gh | apply gi | apply gj); conv => whnf) | (refine ⟨⟨rfl, rfl, nle rfl, nle rfl⟩, ?_⟩; conv => whnf) | fail)
      refine ⟨(i + 1, L ++ [s.getD i 0] ++ [32], g + 1 + 1), ⟨by dsimp only; omega, by dsimp only; simp only [List.length_append, List.length_singleton]; omega, by dsimp only; rw [← hL]; simp⟩, SubS.mkN [] [(1003, 1003)] rfl rfl rfl ⟨⟨_, rfl, .same⟩, ⟨_, rfl, .row _ _ _ _ _ _ _ _ _ rfl rfl rfl (by simp)⟩, ⟨_, rfl, .same⟩, trivial⟩ ⟨.inl ⟨_, _, rfl, rfl, rfl, CellsA.row ?_ rfl rfl (by simp)⟩, trivial⟩, by dsimp only; omega⟩
      dsimp only
      refine CellsA.cat (CellsA.cat (fun _ _ _ _ => .same) rfl (CellsA.one ?_)) (show L.length + 1 = (L ++ [s.getD i 0]).length by simp) (CellsA.one ?_)
      · intro j hj
        match j, hj with
        | 0, _ => exact .same
      · intro j hj
        match j, hj with
        | 0, _ => exact .same
  · have he : i = s.length := by omega
    rw [he, List.drop_length, show wide [] = [] from rfl, List.append_nil] at hL
    conv => whnf
    repeat (first | ((with_reducible first | apply ga | apply gb | apply gc | apply gd | apply ge | apply gf | apply gg | apply gh | apply gi | apply gj); conv => whnf) | (refine ⟨⟨rfl, rfl, nle rfl, nle rfl⟩, ?_⟩; conv => whnf) | fail)
    refine ⟨⟨rfl, rfl, rfl, nle (by simp [bytesO, rowA]), fun a ha => rfl⟩, ?_⟩
    conv => whnf
    repeat (first | ((with_reducible first | apply ga | apply gb | apply gc | apply gd | apply ge | apply gf | apply gg | apply gh | apply gi | apply gj); conv => whnf) | (refine ⟨⟨rfl, rfl, nle rfl, nle rfl⟩, ?_⟩; conv => whnf) | fail)
    have e : (List.range L.length).map (fun i => ((bytesO g L).f (0 + i) 0).byte) = wide s := by rw [bytes_str rfl fun i _ => rfl, hL]
    rw [← e]
    exact ⟨[], .same⟩
end Go.Proofs.YtdoeiccibhabcaaDoor

namespace Go.Proofs.YtdoeiccibhabcaaDoor
open Go Go.AM
attribute [local irreducible] AWP CallK PureCall SubS HeapCall
def Sb (l : Line) (w E : List UInt8) : ASt := mkSt 83 [(7, .ptr 7 0 5 0 0), (10, st w), (11, st E)] [(7, lineO l)]
theorem f8_tail (c : Code) (hc : Tryd.f8.body = some c) (l : Line) (w E : List UInt8) (hw : w.length ≤ 120 → scan w = (l, 0, 0)) (hE : E.length ≤ 120 → scan E = (l, 0, 0)) (h1 : B62 w) (h2 : B62 E) :
    AWP Tryd.prog (tailN 7 c) (finQ tab Tryd.f8.results.toList fun v H => ∃ B, VLe H B [] v (bb true)) (Sb l w E) := by
  cases hc
  have c1 := f21 w h1
  have c2 := f21 E h2
  refine ex_sound tab_ok mixed _ _ _ ?_
  conv => whnf
  repeat (first | ((with_reducible first | apply ga | apply gb | apply gc | apply gd | apply ge | apply gf | apply gg | apply gh | apply gi | apply gj); conv => whnf) | (refine ⟨⟨rfl, rfl, nle rfl, nle rfl⟩, ?_⟩; conv => whnf) | fail)
  refine ⟨fun ha => ?_, fun ha => ?_⟩ <;> replace ha := nm ha <;> (try simp only [Int.toNat_zero] at ha) <;> (try simp only [Int.toNat_one] at ha)
  · rw [hw (by omega)] at c1
    conv => whnf
    repeat (first | ((with_reducible first | apply ga | apply gb | apply gc | apply gd | apply ge | apply gf | apply gg | apply gh | apply gi | apply gj); conv => whnf) | (refine ⟨⟨rfl, rfl, nle rfl, nle rfl⟩, ?_⟩; conv => whnf) | fail)
    refine CallK.flat [] c1 ⟨.same, trivial⟩ rfl ?_
    conv => whnf
    repeat (first | ((with_reducible first | apply ga | apply gb | apply gc | apply gd | apply ge | apply gf | apply gg | apply gh | apply gi | apply gj); conv => whnf) | (refine ⟨⟨rfl, rfl, nle rfl, nle rfl⟩, ?_⟩; conv => whnf) | fail)
    refine ⟨fun _ => ?_, fun h => absurd h (by simp)⟩
    conv => whnf
    repeat (first | ((with_reducible first | apply ga | apply gb | apply gc | apply gd | apply ge | apply gf | apply gg | apply gh | apply gi | apply gj); conv => whnf) | (refine ⟨⟨rfl, rfl, nle rfl, nle rfl⟩, ?_⟩; conv => whnf) | fail)
    refine ⟨fun h => absurd h (by simp), fun _ => ?_⟩
    conv => whnf
    repeat (first | ((with_reducible first | apply ga | apply gb | apply gc | apply gd | apply ge | apply gf | apply gg | apply gh | apply gi | apply gj); conv => whnf) | (refine ⟨⟨rfl, rfl, nle rfl, nle rfl⟩, ?_⟩; conv => whnf) | fail)
    refine ⟨fun hb => ?_, fun hb => ?_⟩ <;> replace hb := nm hb <;> (try simp only [Int.toNat_zero] at hb) <;> (try simp only [Int.toNat_one] at hb)
    · conv => whnf
      repeat (first | ((with_reducible first | apply ga | apply gb | apply gc | apply gd | apply ge | apply gf | apply gg | apply gh | apply gi | apply gj); conv => whnf) | (refine ⟨⟨rfl, rfl, nle rfl, nle rfl⟩, ?_⟩; conv => whnf) | fail)
      refine CallK.flat [] f18 trivial rfl ?_
      conv => whnf
      repeat (first | ((with_reducible first | apply ga | apply gb | apply gc | apply gd | apply ge | apply gf | apply gg | apply gh | apply gi | apply gj); conv => whnf) | (refine ⟨⟨rfl, rfl, nle rfl, nle rfl⟩, ?_⟩; conv => whnf) | fail)
      exact done_bool _ _ rfl rfl rfl
    · rw [hE (by omega)] at c2
      conv => whnf
      repeat (first | ((with_reducible first | apply ga | apply gb | apply gc | apply gd | apply ge | apply gf | apply gg | apply gh | apply gi | apply gj); conv => whnf) | (refine ⟨⟨rfl, rfl, nle rfl, nle rfl⟩, ?_⟩; conv => whnf) | fail)
      refine CallK.flat [] c2 ⟨.same, trivial⟩ rfl ?_
      conv => whnf
      repeat (first | ((with_reducible first | apply ga | apply gb | apply gc | apply gd | apply ge | apply gf | apply gg | apply gh | apply gi | apply gj); conv => whnf) | (refine ⟨⟨rfl, rfl, nle rfl, nle rfl⟩, ?_⟩; conv => whnf) | fail)
      repeat (first | ((with_reducible first | apply ga | apply gb | apply gc | apply gd | apply ge | apply gf | apply gg | apply gh | apply gi | apply gj); conv => whnf) | (refine ⟨⟨rfl, rfl, nle rfl, nle rfl⟩, ?_⟩; conv => whnf) | (refine CallK.flat [] f18 trivial rfl ?_; conv => whnf) | (refine ⟨fun _ => ?_, fun h => absurd h (by simp)⟩; conv => whnf) | fail)
      exact done_bool _ _ rfl rfl rfl
  · conv => whnf
    repeat (first | ((with_reducible first | apply ga | apply gb | apply gc | apply gd | apply ge | apply gf | apply gg | apply gh | apply gi | apply gj); conv => whnf) | (refine ⟨⟨rfl, rfl, nle rfl, nle rfl⟩, ?_⟩; conv => whnf) | fail)
    refine ⟨fun hb => ?_, fun hb => ?_⟩ <;> replace hb := nm hb <;> (try simp only [Int.toNat_zero] at hb) <;> (try simp only [Int.toNat_one] at hb)
    · conv => whnf
      repeat (first | ((with_reducible first | apply ga | apply gb | apply gc | apply gd | apply ge | apply gf | apply gg | apply gh | apply gi | apply gj); conv => whnf) | (refine ⟨⟨rfl, rfl, nle rfl, nle rfl⟩, ?_⟩; conv => whnf) | fail)
      refine CallK.flat [] f18 trivial rfl ?_
      conv => whnf
      repeat (first | ((with_reducible first | apply ga | apply gb | apply gc | apply gd | apply ge | apply gf | apply gg | apply gh | apply gi | apply gj); conv => whnf) | (refine ⟨⟨rfl, rfl, nle rfl, nle rfl⟩, ?_⟩; conv => whnf) | fail)
      exact done_bool _ _ rfl rfl rfl
    · rw [hE (by omega)] at c2
      conv => whnf
      repeat (first | ((with_reducible first | apply ga | apply gb | apply gc | apply gd | apply ge | apply gf | apply gg | apply gh | apply gi | apply gj); conv => whnf) | (refine ⟨⟨rfl, rfl, nle rfl, nle rfl⟩, ?_⟩; conv => whnf) | fail)
      refine CallK.flat [] c2 ⟨.same, trivial⟩ rfl ?_
      conv => whnf
      repeat (first | ((with_reducible first | apply ga | apply gb | apply gc | apply gd | apply ge | apply gf | apply gg | apply gh | apply gi | apply gj); conv => whnf) | (refine ⟨⟨rfl, rfl, nle rfl, nle rfl⟩, ?_⟩; conv => whnf) | fail)
      repeat (first | ((with_reducible first | apply ga | apply gb | apply gc | apply gd | apply ge | apply gf | apply gg | apply gh | apply gi | apply gj); conv => whnf) | (refine ⟨⟨rfl, rfl, nle rfl, nle rfl⟩, ?_⟩; conv => whnf) | (refine CallK.flat [] f18 trivial rfl ?_; conv => whnf) | (refine ⟨fun _ => ?_, fun h => absurd h (by simp)⟩; conv => whnf) | fail)
      exact done_bool _ _ rfl rfl rfl
theorem wide_len (s : List UInt8) : (wide s).length ≤ 2 * s.length := by
  induction s with
  | nil => simp [wide]
  | cons c s ih =>
    unfold wide at ih ⊢
    rw [List.flatMap_cons, List.length_append]
    unfold dbl at ih ⊢
    have : (if blank c then [c, 32] else [c] : List UInt8).length ≤ 2 := by split <;> simp
    simp only [List.length_cons]; omega
theorem f8 (s r : List UInt8) (n : Int) (hs : s.length < 2 ^ 48) (hr : r.length < 2 ^ 48) (hn : 0 ≤ n ∧ n ≤ 255) : PureCall Tryd.prog 8 [st s, st r, u8 n] (bb true) := by
  obtain ⟨h0, h1⟩ := scan_ok s
  have c1 := f21 s (by unfold B62; omega)
  obtain ⟨⟨l, at', e⟩, hsc⟩ : ∃ x, scan s = x := ⟨_, rfl⟩
  rw [hsc] at h0 h1 c1
  dsimp only at h0 h1
  refine PureCall.runC tab_ok mixed (by kernel_rfl) Tryd.func8 rfl rfl rfl 7 ?_
  conv => whnf
  repeat (first | ((with_reducible first | apply ga | apply gb | apply gc | apply gd | apply ge | apply gf | apply gg | apply gh | apply gi | apply gj); conv => whnf) | (refine ⟨⟨rfl, rfl, nle rfl, nle rfl⟩, ?_⟩; conv => whnf) | fail)
  refine CallK.flat [] c1 ⟨.same, trivial⟩ rfl ?_
  conv => whnf
  repeat (first | ((with_reducible first | apply ga | apply gb | apply gc | apply gd | apply ge | apply gf | apply gg | apply gh | apply gi | apply gj); conv => whnf) | (refine ⟨⟨rfl, rfl, nle rfl, nle rfl⟩, ?_⟩; conv => whnf) | fail)
  refine ⟨fun he => ?_, fun he => ?_⟩ <;> replace he := nm he <;> (try simp only [Int.toNat_zero] at he) <;> (try simp only [Int.toNat_one] at he)
  · conv => whnf
    repeat (first | ((with_reducible first | apply ga | apply gb | apply gc | apply gd | apply ge | apply gf | apply gg | apply gh | apply gi | apply gj); conv => whnf) | (refine ⟨⟨rfl, rfl, nle rfl, nle rfl⟩, ?_⟩; conv => whnf) | fail)
    refine CallK.flat [] f18 trivial rfl ?_
    conv => whnf
    repeat (first | ((with_reducible first | apply ga | apply gb | apply gc | apply gd | apply ge | apply gf | apply gg | apply gh | apply gi | apply gj); conv => whnf) | (refine ⟨⟨rfl, rfl, nle rfl, nle rfl⟩, ?_⟩; conv => whnf) | fail)
    exact done_bool _ _ rfl rfl rfl
  · obtain ⟨h2, h3⟩ := h0 he
    subst h3 he
    have hsl : s.length ≤ 120 := by
      rcases Nat.lt_or_ge 120 s.length with h | h
      · rw [scan, if_pos (by omega)] at hsc
        have := congrArg (fun x => x.2.2) hsc
        exact absurd (show (4 : Int) = 0 from this) (by decide)
      · exact h
    have hwl := wide_len s
    conv => whnf
    repeat (first | ((with_reducible first | apply ga | apply gb | apply gc | apply gd | apply ge | apply gf | apply gg | apply gh | apply gi | apply gj); conv => whnf) | (refine ⟨⟨rfl, rfl, nle rfl, nle rfl⟩, ?_⟩; conv => whnf) | fail)
    refine CallK.flat [] (f25 s (by omega)) ⟨.same, trivial⟩ rfl ?_
    conv => whnf
    repeat (first | ((with_reducible first | apply ga | apply gb | apply gc | apply gd | apply ge | apply gf | apply gg | apply gh | apply gi | apply gj); conv => whnf) | (refine ⟨⟨rfl, rfl, nle rfl, nle rfl⟩, ?_⟩; conv => whnf) | fail)
    refine ex_loop tab_ok mixed (fun k : Nat => k ≤ 5) (fun k => mkSt 83 [(1, st r), (2, u8 n), (7, .ptr 7 0 5 0 0), (10, st (wide s)), (11, st (s ++ tail k)), (12, i64 k)] [(7, lineO l)]) (fun k => 5 - k) 0 (Nat.zero_le _) (SubS.mk [] rfl ⟨⟨_, rfl, .same⟩, ⟨_, rfl, .same⟩, ⟨_, rfl, .ptr _ _ _ _ _ _ _ _ _ rfl rfl rfl rfl⟩, ⟨_, rfl, .same⟩, ⟨_, rfl, ?_⟩, ⟨_, rfl, .same⟩, trivial⟩ ⟨.inl ⟨_, _, rfl, rfl, rfl, ole5 rfl rfl rfl rfl rfl rfl .same .same .same .same .same⟩, trivial⟩) ?_
    · rw [tail, List.append_nil]; exact .same
    intro k hk
    have hkl := tail_len k
    conv => whnf
    repeat (first | ((with_reducible first | apply ga | apply gb | apply gc | apply gd | apply ge | apply gf | apply gg | apply gh | apply gi | apply gj); conv => whnf) | (refine ⟨⟨rfl, rfl, nle rfl, nle rfl⟩, ?_⟩; conv => whnf) | fail)
    obtain ⟨m, hm, hm5⟩ : ∃ m : Nat, Int.tmod (IntKind.i64.wrap n) 5 = m ∧ m < 5 := by
      rw [wi64 (by omega) (by omega), Int.tmod_eq_emod_of_nonneg hn.1]
      exact ⟨(n % 5).toNat, by omega, by omega⟩
    refine ⟨⟨by decide⟩, ?_⟩
    conv => whnf
    repeat (first | ((with_reducible first | apply ga | apply gb | apply gc | apply gd | apply ge | apply gf | apply gg | apply gh | apply gi | apply gj); conv => whnf) | (refine ⟨⟨rfl, rfl, nle rfl, nle rfl⟩, ?_⟩; conv => whnf) | fail)
    rw [hm]
    refine ⟨fun hc => ?_, fun hc => ?_⟩ <;> replace hc := nm hc <;> (try simp only [Int.toNat_zero] at hc) <;> (try simp only [Int.toNat_one] at hc)
    · conv => whnf
      repeat (first | ((with_reducible first | apply ga | apply gb | apply gc | apply gd | apply ge | apply gf | apply gg | apply gh | apply gi | apply gj); conv => whnf) | (refine ⟨⟨rfl, rfl, nle rfl, nle rfl⟩, ?_⟩; conv => whnf) | fail)
      refine ⟨⟨by simp only [List.length_append, List.length_cons, List.length_nil]; omega⟩, ?_⟩
      conv => whnf
      repeat (first | ((with_reducible first | apply ga | apply gb | apply gc | apply gd | apply ge | apply gf | apply gg | apply gh | apply gi | apply gj); conv => whnf) | (refine ⟨⟨rfl, rfl, nle rfl, nle rfl⟩, ?_⟩; conv => whnf) | fail)
      refine ⟨⟨by unfold inI64; omega⟩, ?_⟩
      conv => whnf
      repeat (first | ((with_reducible first | apply ga | apply gb | apply gc | apply gd | apply ge | apply gf | apply gg | apply gh | apply gi | apply gj); conv => whnf) | (refine ⟨⟨rfl, rfl, nle rfl, nle rfl⟩, ?_⟩; conv => whnf) | fail)
      refine ⟨k + 1, by omega, SubS.mk [] rfl ⟨⟨_, rfl, .same⟩, ⟨_, rfl, .same⟩, ⟨_, rfl, .ptr _ _ _ _ _ _ _ _ _ rfl rfl rfl rfl⟩, ⟨_, rfl, .same⟩, ⟨_, rfl, ?_⟩, ⟨_, rfl, .same⟩, trivial⟩ ⟨.inl ⟨_, _, rfl, rfl, rfl, ole5 rfl rfl rfl rfl rfl rfl .same .same .same .same .same⟩, trivial⟩, by omega⟩
      rw [tail, ← List.append_assoc]; exact .same
    · conv => whnf
      repeat (first | ((with_reducible first | apply ga | apply gb | apply gc | apply gd | apply ge | apply gf | apply gg | apply gh | apply gi | apply gj); conv => whnf) | (refine ⟨⟨rfl, rfl, nle rfl, nle rfl⟩, ?_⟩; conv => whnf) | fail)
      refine ⟨⟨by decide⟩, ?_⟩
      conv => whnf
      repeat (first | ((with_reducible first | apply ga | apply gb | apply gc | apply gd | apply ge | apply gf | apply gg | apply gh | apply gi | apply gj); conv => whnf) | (refine ⟨⟨rfl, rfl, nle rfl, nle rfl⟩, ?_⟩; conv => whnf) | fail)
      refine ⟨fun h2 => ?_, fun h2 => ?_⟩ <;> replace h2 := nm h2 <;> (try simp only [Int.toNat_zero] at h2) <;> (try simp only [Int.toNat_one] at h2)
      · conv => whnf
        repeat (first | ((with_reducible first | apply ga | apply gb | apply gc | apply gd | apply ge | apply gf | apply gg | apply gh | apply gi | apply gj); conv => whnf) | (refine ⟨⟨rfl, rfl, nle rfl, nle rfl⟩, ?_⟩; conv => whnf) | fail)
        refine ⟨⟨by simp only [List.length_append, List.length_cons, List.length_nil]; omega⟩, ?_⟩
        conv => whnf
        repeat (first | ((with_reducible first | apply ga | apply gb | apply gc | apply gd | apply ge | apply gf | apply gg | apply gh | apply gi | apply gj); conv => whnf) | (refine ⟨⟨rfl, rfl, nle rfl, nle rfl⟩, ?_⟩; conv => whnf) | fail)
        refine ⟨⟨by simp only [List.length_append, List.length_cons, List.length_nil]; omega⟩, ?_⟩
        conv => whnf
        repeat (first | ((with_reducible first | apply ga | apply gb | apply gc | apply gd | apply ge | apply gf | apply gg | apply gh | apply gi | apply gj); conv => whnf) | (refine ⟨⟨rfl, rfl, nle rfl, nle rfl⟩, ?_⟩; conv => whnf) | fail)
        refine AWP.sub (st' := Sb l (wide s) (s ++ (tail k ++ (35 :: r)))) (SubS.mk [] rfl ⟨⟨_, rfl, .ptr _ _ _ _ _ _ _ _ _ rfl rfl rfl rfl⟩, ⟨_, rfl, .same⟩, ⟨_, rfl, ?_⟩, trivial⟩ ⟨.inl ⟨_, _, rfl, rfl, rfl, ole5 rfl rfl rfl rfl rfl rfl .same .same .same .same .same⟩, trivial⟩) (f8_tail _ rfl l _ _ (scan_wide hsc) (fun h => scan_end hsc h (tail_bef k r)) (by unfold B62; omega) (by unfold B62; simp only [List.length_append, List.length_cons]; omega))
        rw [show s ++ (tail k ++ 35 :: r) = s ++ tail k ++ [35] ++ r by simp]; exact .same
      · conv => whnf
        repeat (first | ((with_reducible first | apply ga | apply gb | apply gc | apply gd | apply ge | apply gf | apply gg | apply gh | apply gi | apply gj); conv => whnf) | (refine ⟨⟨rfl, rfl, nle rfl, nle rfl⟩, ?_⟩; conv => whnf) | fail)
        exact AWP.sub (st' := Sb l (wide s) (s ++ tail k)) (SubS.mk [] rfl ⟨⟨_, rfl, .ptr _ _ _ _ _ _ _ _ _ rfl rfl rfl rfl⟩, ⟨_, rfl, .same⟩, ⟨_, rfl, .same⟩, trivial⟩ ⟨.inl ⟨_, _, rfl, rfl, rfl, ole5 rfl rfl rfl rfl rfl rfl .same .same .same .same .same⟩, trivial⟩) (f8_tail _ rfl l _ _ (scan_wide hsc) (fun h => scan_end hsc h (tail_bef0 k)) (by unfold B62; omega) (by unfold B62; simp only [List.length_append]; omega))
end Go.Proofs.YtdoeiccibhabcaaDoor

namespace Go.Proofs.YtdoeiccibhabcaaDoor
open Go Go.AM
attribute [local irreducible] AWP CallK PureCall SubS HeapCall
theorem itoa_nat_len {u : Nat} (h : u ≤ 300000) : (Lib.itoa (u : Int)).length ≤ 21 := itoa_len (by unfold inI64; omega)
theorem f27m : ∀ (u : Nat), u ≤ 300000 → PureCall Tryd.prog 27 [i64 u] (st (Lib.itoa u)) := by
  intro u
  induction u using Nat.strongRecOn with
  | ind u ih =>
    intro hu
    have hl : ∀ k : Nat, k ≤ 300000 → (Lib.itoa (k : Int)).length ≤ 21 := fun k hk => itoa_nat_len hk
    refine PureCall.run tab_ok mixed (by kernel_rfl) Tryd.func27 rfl rfl rfl ?_
    conv => whnf
    repeat (first | ((with_reducible first | apply ga | apply gb | apply gc | apply gd | apply ge | apply gf | apply gg | apply gh | apply gi | apply gj); conv => whnf) | (refine ⟨⟨rfl, rfl, nle rfl, nle rfl⟩, ?_⟩; conv => whnf) | fail)
    refine ⟨fun hn => ?_, fun hn => ?_⟩ <;> replace hn := nm hn <;> (try simp only [Int.toNat_zero] at hn) <;> (try simp only [Int.toNat_one] at hn)
    · exfalso; omega
    · conv => whnf
      repeat (first | ((with_reducible first | apply ga | apply gb | apply gc | apply gd | apply ge | apply gf | apply gg | apply gh | apply gi | apply gj); conv => whnf) | (refine ⟨⟨rfl, rfl, nle rfl, nle rfl⟩, ?_⟩; conv => whnf) | fail)
      refine ⟨fun h10 => ?_, fun h10 => ?_⟩ <;> replace h10 := nm h10 <;> (try simp only [Int.toNat_zero] at h10) <;> (try simp only [Int.toNat_one] at h10)
      · conv => whnf
        repeat (first | ((with_reducible first | apply ga | apply gb | apply gc | apply gd | apply ge | apply gf | apply gg | apply gh | apply gi | apply gj); conv => whnf) | (refine ⟨⟨rfl, rfl, nle rfl, nle rfl⟩, ?_⟩; conv => whnf) | fail)
        refine ⟨⟨by unfold inI64; omega⟩, ?_⟩
        conv => whnf
        repeat (first | ((with_reducible first | apply ga | apply gb | apply gc | apply gd | apply ge | apply gf | apply gg | apply gh | apply gi | apply gj); conv => whnf) | (refine ⟨⟨rfl, rfl, nle rfl, nle rfl⟩, ?_⟩; conv => whnf) | fail)
        refine ⟨⟨by omega, by omega, by simp only [List.length_cons, List.length_nil]; omega⟩, ?_⟩
        conv => whnf
        repeat (first | ((with_reducible first | apply ga | apply gb | apply gc | apply gd | apply ge | apply gf | apply gg | apply gh | apply gi | apply gj); conv => whnf) | (refine ⟨⟨rfl, rfl, nle rfl, nle rfl⟩, ?_⟩; conv => whnf) | fail)
        have hE : Lib.itoa (u : Int) = (digs.take ((u : Int) + 1).toNat).drop (u : Int).toNat := by
          rw [Lib.itoa_nonneg, show ((u : Int) + 1).toNat = u + 1 by omega, show ((u : Int)).toNat = u by omega, digs_at u (by omega), Lib.decDigits_one (by omega)]
        rw [hE]
        exact ⟨[], .same⟩
      · conv => whnf
        repeat (first | ((with_reducible first | apply ga | apply gb | apply gc | apply gd | apply ge | apply gf | apply gg | apply gh | apply gi | apply gj); conv => whnf) | (refine ⟨⟨rfl, rfl, nle rfl, nle rfl⟩, ?_⟩; conv => whnf) | fail)
        have e1 : Int.tdiv (u : Int) 10 = ((u / 10 : Nat) : Int) := by rw [Int.tdiv_eq_ediv_of_nonneg (by omega)]; omega
        have e2 : Int.tmod (u : Int) 10 = ((u % 10 : Nat) : Int) := by rw [Int.tmod_eq_emod_of_nonneg (by omega)]; omega
        refine ⟨⟨by decide, by unfold inI64; rw [e1]; omega⟩, ?_⟩
        conv => whnf
        repeat (first | ((with_reducible first | apply ga | apply gb | apply gc | apply gd | apply ge | apply gf | apply gg | apply gh | apply gi | apply gj); conv => whnf) | (refine ⟨⟨rfl, rfl, nle rfl, nle rfl⟩, ?_⟩; conv => whnf) | fail)
        rw [e1]
        refine CallK.flat [] (ih (u / 10) (by omega) (by omega)) ⟨.same, trivial⟩ rfl ?_
        conv => whnf
        repeat (first | ((with_reducible first | apply ga | apply gb | apply gc | apply gd | apply ge | apply gf | apply gg | apply gh | apply gi | apply gj); conv => whnf) | (refine ⟨⟨rfl, rfl, nle rfl, nle rfl⟩, ?_⟩; conv => whnf) | fail)
        refine ⟨⟨by decide⟩, ?_⟩
        conv => whnf
        repeat (first | ((with_reducible first | apply ga | apply gb | apply gc | apply gd | apply ge | apply gf | apply gg | apply gh | apply gi | apply gj); conv => whnf) | (refine ⟨⟨rfl, rfl, nle rfl, nle rfl⟩, ?_⟩; conv => whnf) | fail)
        rw [e2]
        refine CallK.flat [] (ih (u % 10) (by omega) (by omega)) ⟨.same, trivial⟩ rfl ?_
        conv => whnf
        repeat (first | ((with_reducible first | apply ga | apply gb | apply gc | apply gd | apply ge | apply gf | apply gg | apply gh | apply gi | apply gj); conv => whnf) | (refine ⟨⟨rfl, rfl, nle rfl, nle rfl⟩, ?_⟩; conv => whnf) | fail)
        refine ⟨⟨by have := hl (u / 10) (by omega); have := hl (u % 10) (by omega); omega⟩, ?_⟩
        conv => whnf
        repeat (first | ((with_reducible first | apply ga | apply gb | apply gc | apply gd | apply ge | apply gf | apply gg | apply gh | apply gi | apply gj); conv => whnf) | (refine ⟨⟨rfl, rfl, nle rfl, nle rfl⟩, ?_⟩; conv => whnf) | fail)
        have hE : Lib.itoa (u : Int) = Lib.itoa ((u / 10 : Nat) : Int) ++ Lib.itoa ((u % 10 : Nat) : Int) := by
          rw [Lib.itoa_nonneg, Lib.itoa_nonneg, Lib.itoa_nonneg]; exact dec_big (by omega)
        rw [hE]
        exact ⟨[], .same⟩
/-- Digits to the base 8. -/
def octD (n : Nat) : List UInt8 := if n < 8 then [UInt8.ofNat (48 + n)] else octD (n / 8) ++ [UInt8.ofNat (48 + n % 8)]
termination_by n
decreasing_by omega
theorem oct_one {n : Nat} (h : n < 8) : octD n = [UInt8.ofNat (48 + n)] := by rw [octD, if_pos h]
theorem oct_big {n : Nat} (h : ¬ n < 8) : octD n = octD (n / 8) ++ octD (n % 8) := by rw [octD, if_neg h, oct_one (n := n % 8) (by omega)]
theorem oct_len (n : Nat) : 1 ≤ (octD n).length ∧ (octD n).length ≤ n + 1 := by
  induction n using Nat.strongRecOn with
  | ind n ih =>
    by_cases h : n < 8
    · rw [oct_one h]; simp
    · have := ih (n / 8) (by omega)
      rw [octD, if_neg h, List.length_append, List.length_singleton]; omega
theorem val_oct (u : Nat) : val 8 0 (octD u) = some (min (u : Int) 65536) := by
  induction u using Nat.strongRecOn with
  | ind u ih =>
    by_cases h : u < 8
    · rw [oct_one h, val, val, dig_toNat (by omega), if_pos (by omega)]
      congr 1; omega
    · rw [octD, if_neg h, val_app, ih (u / 8) (by omega), Option.bind_some, val, val, dig_toNat (by omega), if_pos (by omega)]
      congr 1; omega
def octs : List UInt8 := [48, 49, 50, 51, 52, 53, 54, 55]
theorem octs_at : ∀ n : Nat, n < 8 → (octs.take (n + 1)).drop n = [UInt8.ofNat (48 + n)] := by decide
theorem f26 : ∀ (u : Nat), u ≤ 300000 → PureCall Tryd.prog 26 [i64 u] (st (octD u)) := by
  intro u
  induction u using Nat.strongRecOn with
  | ind u ih =>
    intro hu
    refine PureCall.run tab_ok mixed (by kernel_rfl) Tryd.func26 rfl rfl rfl ?_
    conv => whnf
    repeat (first | ((with_reducible first | apply ga | apply gb | apply gc | apply gd | apply ge | apply gf | apply gg | apply gh | apply gi | apply gj); conv => whnf) | (refine ⟨⟨rfl, rfl, nle rfl, nle rfl⟩, ?_⟩; conv => whnf) | fail)
    refine ⟨fun h10 => ?_, fun h10 => ?_⟩ <;> replace h10 := nm h10 <;> (try simp only [Int.toNat_zero] at h10) <;> (try simp only [Int.toNat_one] at h10)
    · conv => whnf
      repeat (first | ((with_reducible first | apply ga | apply gb | apply gc | apply gd | apply ge | apply gf | apply gg | apply gh | apply gi | apply gj); conv => whnf) | (refine ⟨⟨rfl, rfl, nle rfl, nle rfl⟩, ?_⟩; conv => whnf) | fail)
      refine ⟨⟨by unfold inI64; omega⟩, ?_⟩
      conv => whnf
      repeat (first | ((with_reducible first | apply ga | apply gb | apply gc | apply gd | apply ge | apply gf | apply gg | apply gh | apply gi | apply gj); conv => whnf) | (refine ⟨⟨rfl, rfl, nle rfl, nle rfl⟩, ?_⟩; conv => whnf) | fail)
      refine ⟨⟨by omega, by omega, by simp only [List.length_cons, List.length_nil]; omega⟩, ?_⟩
      conv => whnf
      repeat (first | ((with_reducible first | apply ga | apply gb | apply gc | apply gd | apply ge | apply gf | apply gg | apply gh | apply gi | apply gj); conv => whnf) | (refine ⟨⟨rfl, rfl, nle rfl, nle rfl⟩, ?_⟩; conv => whnf) | fail)
      have hE : octD u = (octs.take ((u : Int) + 1).toNat).drop (u : Int).toNat := by
        rw [show ((u : Int) + 1).toNat = u + 1 by omega, show ((u : Int)).toNat = u by omega, octs_at u (by omega), oct_one (by omega)]
      rw [hE]
      exact ⟨[], .same⟩
    · conv => whnf
      repeat (first | ((with_reducible first | apply ga | apply gb | apply gc | apply gd | apply ge | apply gf | apply gg | apply gh | apply gi | apply gj); conv => whnf) | (refine ⟨⟨rfl, rfl, nle rfl, nle rfl⟩, ?_⟩; conv => whnf) | fail)
      have e1 : Int.tdiv (u : Int) 8 = ((u / 8 : Nat) : Int) := by rw [Int.tdiv_eq_ediv_of_nonneg (by omega)]; omega
      have e2 : Int.tmod (u : Int) 8 = ((u % 8 : Nat) : Int) := by rw [Int.tmod_eq_emod_of_nonneg (by omega)]; omega
      refine ⟨⟨by decide, by unfold inI64; rw [e1]; omega⟩, ?_⟩
      conv => whnf
      repeat (first | ((with_reducible first | apply ga | apply gb | apply gc | apply gd | apply ge | apply gf | apply gg | apply gh | apply gi | apply gj); conv => whnf) | (refine ⟨⟨rfl, rfl, nle rfl, nle rfl⟩, ?_⟩; conv => whnf) | fail)
      rw [e1]
      refine CallK.flat [] (ih (u / 8) (by omega) (by omega)) ⟨.same, trivial⟩ rfl ?_
      conv => whnf
      repeat (first | ((with_reducible first | apply ga | apply gb | apply gc | apply gd | apply ge | apply gf | apply gg | apply gh | apply gi | apply gj); conv => whnf) | (refine ⟨⟨rfl, rfl, nle rfl, nle rfl⟩, ?_⟩; conv => whnf) | fail)
      refine ⟨⟨by decide⟩, ?_⟩
      conv => whnf
      repeat (first | ((with_reducible first | apply ga | apply gb | apply gc | apply gd | apply ge | apply gf | apply gg | apply gh | apply gi | apply gj); conv => whnf) | (refine ⟨⟨rfl, rfl, nle rfl, nle rfl⟩, ?_⟩; conv => whnf) | fail)
      rw [e2]
      refine CallK.flat [] (ih (u % 8) (by omega) (by omega)) ⟨.same, trivial⟩ rfl ?_
      conv => whnf
      repeat (first | ((with_reducible first | apply ga | apply gb | apply gc | apply gd | apply ge | apply gf | apply gg | apply gh | apply gi | apply gj); conv => whnf) | (refine ⟨⟨rfl, rfl, nle rfl, nle rfl⟩, ?_⟩; conv => whnf) | fail)
      refine ⟨⟨by have := oct_len (u / 8); have := oct_len (u % 8); omega⟩, ?_⟩
      conv => whnf
      repeat (first | ((with_reducible first | apply ga | apply gb | apply gc | apply gd | apply ge | apply gf | apply gg | apply gh | apply gi | apply gj); conv => whnf) | (refine ⟨⟨rfl, rfl, nle rfl, nle rfl⟩, ?_⟩; conv => whnf) | fail)
      have hE : octD u = octD (u / 8) ++ octD (u % 8) := oct_big (by omega)
      rw [hE]
      exact ⟨[], .same⟩
def zs (k n : Nat) : List UInt8 := List.replicate k 48 ++ octD n
theorem zs_succ (k n : Nat) : [48] ++ zs k n = zs (k + 1) n := by unfold zs; rw [List.replicate_succ]; rfl
theorem zs_len (k n : Nat) : 1 ≤ (zs k n).length ∧ (zs k n).length ≤ k + n + 1 := by
  have := oct_len n
  unfold zs; rw [List.length_append, List.length_replicate]; omega
theorem val_zs (k n : Nat) : valN 8 (zs k n) = some (min (n : Int) 65536) := by
  have h : val 8 0 (zs k n) = some (min (n : Int) 65536) := by
    induction k with
    | zero => unfold zs; rw [List.replicate_zero, List.nil_append]; exact val_oct n
    | succ k ih => rw [← zs_succ, List.singleton_append, val]; exact ih
  have hn : (zs k n == []) = false := by
    cases hz : zs k n with
    | nil => have := (zs_len k n).1; rw [hz] at this; simp at this
    | cons _ _ => rfl
  unfold valN
  rw [hn]; exact h
def rg (neg : Bool) (n : Nat) : Int × Int := numR neg (some (min (n : Int) 65536))
theorem num_o (k n : Nat) : num ([48, 111] ++ zs k n) = rg false n ∧ num ([45, 48, 111] ++ zs k n) = rg true n := by
  have e : numV ([48, 111] ++ zs k n) = some (min (n : Int) 65536) := by
    unfold numV
    rw [show ([48, 111] : List UInt8).isPrefixOf ([48, 111] ++ zs k n) = true by simp, show cutP [48, 111] ([48, 111] ++ zs k n) = zs k n by simp [cutP]]
    exact val_zs k n
  constructor
  · unfold num rg
    rw [show cutP [45] ([48, 111] ++ zs k n) = [48, 111] ++ zs k n by simp [cutP, List.isPrefixOf], e]
    rfl
  · unfold num rg
    rw [show cutP [45] ([45, 48, 111] ++ zs k n) = [48, 111] ++ zs k n by simp [cutP], e]
    rfl
theorem num_d (n : Nat) : num (Lib.itoa (n : Int)) = rg false n ∧ num ([45] ++ Lib.itoa (n : Int)) = rg true n := by
  rw [Lib.itoa_nonneg]
  have e2 : [45].isPrefixOf (Lib.decDigits n) = false := by
    cases hd : Lib.decDigits n with
    | nil => rfl
    | cons d r =>
      have h := dec_digit n d (by rw [hd]; simp)
      have : ¬ (45 : UInt8) = d := fun e => by subst e; revert h; decide
      simp [List.isPrefixOf, this]
  have e1 : cutP [45] (Lib.decDigits n) = Lib.decDigits n := by unfold cutP; rw [e2]; rfl
  constructor
  · unfold num rg
    rw [e1, e2, numV_dec]
  · unfold num rg
    rw [show cutP [45] ([45] ++ Lib.decDigits n) = Lib.decDigits n by simp [cutP], numV_dec]
    simp
theorem rg_big {n : Nat} (h : 65535 < n) (b : Bool) : rg b n = (0, 3) := by
  unfold rg numR
  rw [show min (n : Int) 65536 = 65536 by omega]
  cases b <;> rfl
theorem rg_zero : rg false 0 = (0, 0) ∧ rg true 0 = (0, 5) := by decide
theorem rg_mid {n : Nat} (h : n ≤ 65535) (h0 : 0 < n) : rg false n = ((n : Int), 0) ∧ rg true n = (-(n : Int), 0) := by
  unfold rg numR
  have e3 : ((n : Int) == 0) = false := by simp; omega
  simp only [show min (n : Int) 65536 = n by omega, e3, Bool.and_false, Bool.false_eq_true, if_false, if_neg (show ¬ 65535 < (n : Int) by omega), if_true, and_self]
theorem f9 (v z : Int) (hv : 0 ≤ v ∧ v ≤ 4294967295) (hz : 0 ≤ z ∧ z ≤ 255) : PureCall Tryd.prog 9 [.pv (.int .u32 v), u8 z] (bb true) := by
  obtain ⟨n, hn, hn3⟩ : ∃ n : Nat, IntKind.i64.wrap (Int.tmod v 300000) = n ∧ n < 300000 := by
    rw [Int.tmod_eq_emod_of_nonneg hv.1, wi64 (by omega) (by omega)]
    exact ⟨(v % 300000).toNat, by omega, by omega⟩
  refine PureCall.run tab_ok mixed (by kernel_rfl) Tryd.func9 rfl rfl rfl ?_
  conv => whnf
  repeat (first | ((with_reducible first | apply ga | apply gb | apply gc | apply gd | apply ge | apply gf | apply gg | apply gh | apply gi | apply gj); conv => whnf) | (refine ⟨⟨rfl, rfl, nle rfl, nle rfl⟩, ?_⟩; conv => whnf) | fail)
  refine ⟨⟨by decide⟩, ?_⟩
  conv => whnf
  repeat (first | ((with_reducible first | apply ga | apply gb | apply gc | apply gd | apply ge | apply gf | apply gg | apply gh | apply gi | apply gj); conv => whnf) | (refine ⟨⟨rfl, rfl, nle rfl, nle rfl⟩, ?_⟩; conv => whnf) | fail)
  rw [hn]
  refine CallK.flat [] (f26 n (by omega)) ⟨.same, trivial⟩ rfl ?_
  conv => whnf
  repeat (first | ((with_reducible first | apply ga | apply gb | apply gc | apply gd | apply ge | apply gf | apply gg | apply gh | apply gi | apply gj); conv => whnf) | (refine ⟨⟨rfl, rfl, nle rfl, nle rfl⟩, ?_⟩; conv => whnf) | fail)
  refine ex_loop tab_ok mixed (fun k : Nat => k ≤ 8) (fun k => mkSt 156 [(1, u8 z), (5, i64 n), (6, st (zs k n)), (7, i64 k)] []) (fun k => 8 - k) 0 (Nat.zero_le _) (SubS.mk [] rfl ⟨⟨_, rfl, .same⟩, ⟨_, rfl, .same⟩, ⟨_, rfl, .same⟩, ⟨_, rfl, .same⟩, trivial⟩ trivial) ?_
  intro k hk
  have hkl := zs_len k n
  conv => whnf
  repeat (first | ((with_reducible first | apply ga | apply gb | apply gc | apply gd | apply ge | apply gf | apply gg | apply gh | apply gi | apply gj); conv => whnf) | (refine ⟨⟨rfl, rfl, nle rfl, nle rfl⟩, ?_⟩; conv => whnf) | fail)
  obtain ⟨m, hm, hm5⟩ : ∃ m : Nat, Int.tmod (IntKind.i64.wrap z) 8 = m ∧ m < 8 := by
    rw [wi64 (by omega) (by omega), Int.tmod_eq_emod_of_nonneg hz.1]
    exact ⟨(z % 8).toNat, by omega, by omega⟩
  refine ⟨⟨by decide⟩, ?_⟩
  conv => whnf
  repeat (first | ((with_reducible first | apply ga | apply gb | apply gc | apply gd | apply ge | apply gf | apply gg | apply gh | apply gi | apply gj); conv => whnf) | (refine ⟨⟨rfl, rfl, nle rfl, nle rfl⟩, ?_⟩; conv => whnf) | fail)
  rw [hm]
  refine ⟨fun hc => ?_, fun hc => ?_⟩ <;> replace hc := nm hc <;> (try simp only [Int.toNat_zero] at hc) <;> (try simp only [Int.toNat_one] at hc)
  · conv => whnf
    repeat (first | ((with_reducible first | apply ga | apply gb | apply gc | apply gd | apply ge | apply gf | apply gg | apply gh | apply gi | apply gj); conv => whnf) | (refine ⟨⟨rfl, rfl, nle rfl, nle rfl⟩, ?_⟩; conv => whnf) | fail)
    refine ⟨⟨by simp only [List.length_cons, List.length_nil]; omega⟩, ?_⟩
    conv => whnf
    repeat (first | ((with_reducible first | apply ga | apply gb | apply gc | apply gd | apply ge | apply gf | apply gg | apply gh | apply gi | apply gj); conv => whnf) | (refine ⟨⟨rfl, rfl, nle rfl, nle rfl⟩, ?_⟩; conv => whnf) | fail)
    refine ⟨⟨by unfold inI64; omega⟩, ?_⟩
    conv => whnf
    repeat (first | ((with_reducible first | apply ga | apply gb | apply gc | apply gd | apply ge | apply gf | apply gg | apply gh | apply gi | apply gj); conv => whnf) | (refine ⟨⟨rfl, rfl, nle rfl, nle rfl⟩, ?_⟩; conv => whnf) | fail)
    refine ⟨k + 1, by omega, SubS.mk [] rfl ⟨⟨_, rfl, .same⟩, ⟨_, rfl, .same⟩, ⟨_, rfl, ?_⟩, ⟨_, rfl, .same⟩, trivial⟩ trivial, by omega⟩
    rw [← zs_succ]; exact .same
  · have hl := itoa_nat_len (u := n) (by omega)
    have c1 := f14 (Lib.itoa (n : Int)) (by unfold B62; omega)
    have c2 := f14 ([48, 111] ++ zs k n) (by unfold B62; simp only [List.length_append, List.length_cons, List.length_nil]; omega)
    have c3 := f14 ([45] ++ Lib.itoa (n : Int)) (by unfold B62; simp only [List.length_append, List.length_cons, List.length_nil]; omega)
    have c4 := f14 ([45, 48, 111] ++ zs k n) (by unfold B62; simp only [List.length_append, List.length_cons, List.length_nil]; omega)
    rw [(num_d n).1] at c1
    rw [(num_o k n).1] at c2
    rw [(num_d n).2] at c3
    rw [(num_o k n).2] at c4
    conv => whnf
    repeat (first | ((with_reducible first | apply ga | apply gb | apply gc | apply gd | apply ge | apply gf | apply gg | apply gh | apply gi | apply gj); conv => whnf) | (refine ⟨⟨rfl, rfl, nle rfl, nle rfl⟩, ?_⟩; conv => whnf) | fail)
    refine CallK.flat [] (f27m n (by omega)) ⟨.same, trivial⟩ rfl ?_
    conv => whnf
    repeat (first | ((with_reducible first | apply ga | apply gb | apply gc | apply gd | apply ge | apply gf | apply gg | apply gh | apply gi | apply gj); conv => whnf) | (refine ⟨⟨rfl, rfl, nle rfl, nle rfl⟩, ?_⟩; conv => whnf) | fail)
    refine CallK.flat [] c1 ⟨.same, trivial⟩ rfl ?_
    conv => whnf
    repeat (first | ((with_reducible first | apply ga | apply gb | apply gc | apply gd | apply ge | apply gf | apply gg | apply gh | apply gi | apply gj); conv => whnf) | (refine ⟨⟨rfl, rfl, nle rfl, nle rfl⟩, ?_⟩; conv => whnf) | fail)
    refine ⟨⟨by simp only [List.length_cons, List.length_nil]; omega⟩, ?_⟩
    conv => whnf
    repeat (first | ((with_reducible first | apply ga | apply gb | apply gc | apply gd | apply ge | apply gf | apply gg | apply gh | apply gi | apply gj); conv => whnf) | (refine ⟨⟨rfl, rfl, nle rfl, nle rfl⟩, ?_⟩; conv => whnf) | fail)
    refine CallK.flat [] c2 ⟨.same, trivial⟩ rfl ?_
    conv => whnf
    repeat (first | ((with_reducible first | apply ga | apply gb | apply gc | apply gd | apply ge | apply gf | apply gg | apply gh | apply gi | apply gj); conv => whnf) | (refine ⟨⟨rfl, rfl, nle rfl, nle rfl⟩, ?_⟩; conv => whnf) | fail)
    refine CallK.flat [] (f27m n (by omega)) ⟨.same, trivial⟩ rfl ?_
    conv => whnf
    repeat (first | ((with_reducible first | apply ga | apply gb | apply gc | apply gd | apply ge | apply gf | apply gg | apply gh | apply gi | apply gj); conv => whnf) | (refine ⟨⟨rfl, rfl, nle rfl, nle rfl⟩, ?_⟩; conv => whnf) | fail)
    refine ⟨⟨by simp only [List.length_cons, List.length_nil]; omega⟩, ?_⟩
    conv => whnf
    repeat (first | ((with_reducible first | apply ga | apply gb | apply gc | apply gd | apply ge | apply gf | apply gg | apply gh | apply gi | apply gj); conv => whnf) | (refine ⟨⟨rfl, rfl, nle rfl, nle rfl⟩, ?_⟩; conv => whnf) | fail)
    refine CallK.flat [] c3 ⟨.same, trivial⟩ rfl ?_
    conv => whnf
    repeat (first | ((with_reducible first | apply ga | apply gb | apply gc | apply gd | apply ge | apply gf | apply gg | apply gh | apply gi | apply gj); conv => whnf) | (refine ⟨⟨rfl, rfl, nle rfl, nle rfl⟩, ?_⟩; conv => whnf) | fail)
    refine ⟨⟨by simp only [List.length_cons, List.length_nil]; omega⟩, ?_⟩
    conv => whnf
    repeat (first | ((with_reducible first | apply ga | apply gb | apply gc | apply gd | apply ge | apply gf | apply gg | apply gh | apply gi | apply gj); conv => whnf) | (refine ⟨⟨rfl, rfl, nle rfl, nle rfl⟩, ?_⟩; conv => whnf) | fail)
    refine CallK.flat [] c4 ⟨.same, trivial⟩ rfl ?_
    conv => whnf
    repeat (first | ((with_reducible first | apply ga | apply gb | apply gc | apply gd | apply ge | apply gf | apply gg | apply gh | apply gi | apply gj); conv => whnf) | (refine ⟨⟨rfl, rfl, nle rfl, nle rfl⟩, ?_⟩; conv => whnf) | fail)
    refine ⟨fun hbig => ?_, fun hbig => ?_⟩ <;> replace hbig := nm hbig <;> (try simp only [Int.toNat_zero] at hbig) <;> (try simp only [Int.toNat_one] at hbig)
    · rw [rg_big (by omega), rg_big (by omega)]
      conv => whnf
      repeat (first | ((with_reducible first | apply ga | apply gb | apply gc | apply gd | apply ge | apply gf | apply gg | apply gh | apply gi | apply gj); conv => whnf) | (refine ⟨⟨rfl, rfl, nle rfl, nle rfl⟩, ?_⟩; conv => whnf) | fail)
      repeat (first | ((with_reducible first | apply ga | apply gb | apply gc | apply gd | apply ge | apply gf | apply gg | apply gh | apply gi | apply gj); conv => whnf) | (refine ⟨⟨rfl, rfl, nle rfl, nle rfl⟩, ?_⟩; conv => whnf) | (refine CallK.flat [] f18 trivial rfl ?_; conv => whnf) | (refine ⟨fun _ => ?_, fun h => absurd h (by simp)⟩; conv => whnf) | fail)
      exact done_bool _ _ rfl rfl rfl
    · conv => whnf
      repeat (first | ((with_reducible first | apply ga | apply gb | apply gc | apply gd | apply ge | apply gf | apply gg | apply gh | apply gi | apply gj); conv => whnf) | (refine ⟨⟨rfl, rfl, nle rfl, nle rfl⟩, ?_⟩; conv => whnf) | fail)
      refine ⟨fun h0 => ?_, fun h0 => ?_⟩ <;> replace h0 := nm h0 <;> (try simp only [Int.toNat_zero] at h0) <;> (try simp only [Int.toNat_one] at h0)
      · obtain rfl : n = 0 := by omega
        rw [rg_zero.1, rg_zero.2]
        conv => whnf
        repeat (first | ((with_reducible first | apply ga | apply gb | apply gc | apply gd | apply ge | apply gf | apply gg | apply gh | apply gi | apply gj); conv => whnf) | (refine ⟨⟨rfl, rfl, nle rfl, nle rfl⟩, ?_⟩; conv => whnf) | fail)
        repeat (first | ((with_reducible first | apply ga | apply gb | apply gc | apply gd | apply ge | apply gf | apply gg | apply gh | apply gi | apply gj); conv => whnf) | (refine ⟨⟨rfl, rfl, nle rfl, nle rfl⟩, ?_⟩; conv => whnf) | (refine CallK.flat [] f18 trivial rfl ?_; conv => whnf) | (refine ⟨fun _ => ?_, fun h => absurd h (by simp)⟩; conv => whnf) | fail)
        exact done_bool _ _ rfl rfl rfl
      · rw [(rg_mid (n := n) (by omega) (by omega)).1, (rg_mid (n := n) (by omega) (by omega)).2]
        conv => whnf
        repeat (first | ((with_reducible first | apply ga | apply gb | apply gc | apply gd | apply ge | apply gf | apply gg | apply gh | apply gi | apply gj); conv => whnf) | (refine ⟨⟨rfl, rfl, nle rfl, nle rfl⟩, ?_⟩; conv => whnf) | fail)
        repeat (first | ((with_reducible first | apply ga | apply gb | apply gc | apply gd | apply ge | apply gf | apply gg | apply gh | apply gi | apply gj); conv => whnf) | (refine ⟨⟨rfl, rfl, nle rfl, nle rfl⟩, ?_⟩; conv => whnf) | (refine CallK.flat [] f18 trivial rfl ?_; conv => whnf) | (refine ⟨fun _ => ?_, fun h => absurd h (by simp)⟩; conv => whnf) | fail)
        refine ⟨⟨by unfold inI64; omega⟩, ?_⟩
        conv => whnf
        repeat (first | ((with_reducible first | apply ga | apply gb | apply gc | apply gd | apply ge | apply gf | apply gg | apply gh | apply gi | apply gj); conv => whnf) | (refine ⟨⟨rfl, rfl, nle rfl, nle rfl⟩, ?_⟩; conv => whnf) | fail)
        repeat (first | ((with_reducible first | apply ga | apply gb | apply gc | apply gd | apply ge | apply gf | apply gg | apply gh | apply gi | apply gj); conv => whnf) | (refine ⟨⟨rfl, rfl, nle rfl, nle rfl⟩, ?_⟩; conv => whnf) | (refine CallK.flat [] f18 trivial rfl ?_; conv => whnf) | (refine ⟨fun _ => ?_, fun h => absurd h (by simp)⟩; conv => whnf) | fail)
        refine ⟨⟨by unfold inI64; omega⟩, ?_⟩
        conv => whnf
        repeat (first | ((with_reducible first | apply ga | apply gb | apply gc | apply gd | apply ge | apply gf | apply gg | apply gh | apply gi | apply gj); conv => whnf) | (refine ⟨⟨rfl, rfl, nle rfl, nle rfl⟩, ?_⟩; conv => whnf) | fail)
        repeat (first | ((with_reducible first | apply ga | apply gb | apply gc | apply gd | apply ge | apply gf | apply gg | apply gh | apply gi | apply gj); conv => whnf) | (refine ⟨⟨rfl, rfl, nle rfl, nle rfl⟩, ?_⟩; conv => whnf) | (refine CallK.flat [] f18 trivial rfl ?_; conv => whnf) | (refine ⟨fun _ => ?_, fun h => absurd h (by simp)⟩; conv => whnf) | fail)
        exact done_bool _ _ rfl rfl rfl
end Go.Proofs.YtdoeiccibhabcaaDoor

namespace Go.Proofs.YtdoeiccibhabcaaDoor
open Go Go.AM
attribute [local irreducible] AWP CallK PureCall SubS HeapCall
theorem lnsF_cons {w : List UInt8} (s : List UInt8) (hw : ∀ c ∈ w, c ≠ 10) : ∀ cur, lnsF cur (w ++ 10 :: s) = (cur ++ w) :: lns s := by
  induction w with
  | nil => intro cur; rw [List.nil_append, List.append_nil]; rfl
  | cons c w ih =>
    intro cur
    have h := hw c (by simp)
    have hb : (c == 10) = false := by simpa using h
    rw [List.cons_append, lnsF, hb, if_neg (by decide), ih (fun d hd => hw d (by simp [hd]))]
    simp
theorem lns_cons {w : List UInt8} (s : List UInt8) (hw : ∀ c ∈ w, c ≠ 10) : lns (w ++ 10 :: s) = w :: lns s := lnsF_cons s hw []
def txt (l : Line) : List UInt8 := hd l ++ tl l.arg
def srcM (M : List Line) : List UInt8 := M.flatMap fun l => txt l ++ [10]
theorem scanL_src : ∀ (M acc : List Line), (∀ l ∈ M, mayB l = true) → scanL (lns (srcM M)) acc = (acc ++ M, 0, 0)
  | [], acc, _ => by simp [srcM, lns, lnsF, scanL]
  | l :: M, acc, h => by
    obtain ⟨h1, h2, h3⟩ := scan_print (h l (by simp))
    have h3' : ∀ c ∈ txt l, c ≠ 10 := fun c hc => (h3 c hc).1
    have e : srcM (l :: M) = txt l ++ 10 :: srcM M := by unfold srcM; rw [List.flatMap_cons, List.append_assoc, List.singleton_append]
    have h1' : scan (txt l) = (l, 0, 0) := h1
    rw [e, lns_cons _ h3', scanL, h1', if_neg (by simp), scanL_src M _ (fun m hm => h m (by simp [hm]))]
    simp
theorem srcM_len : ∀ (M : List Line), (∀ l ∈ M, mayB l = true) → (srcM M).length ≤ 61 * M.length
  | [], _ => by simp [srcM]
  | l :: M, h => by
    obtain ⟨h1, h2, h3⟩ := scan_print (h l (by simp))
    have ih := srcM_len M (fun m hm => h m (by simp [hm]))
    unfold srcM at ih ⊢
    rw [List.flatMap_cons]
    unfold txt at ih ⊢
    simp only [List.length_append, List.length_cons, List.length_nil] at *
    omega
theorem scanAll_src (M : List Line) (h : ∀ l ∈ M, mayB l = true) (hl : M.length ≤ 500) : scanAll (srcM M) = (M, 0, 0) := by
  have := srcM_len M h
  unfold scanAll
  rw [if_neg (by omega), scanL_src M [] h, List.nil_append]
theorem take_filter {L : List Line} {i : Nat} (hi : i < L.length) : (L.take (i + 1)).filter mayB = (L.take i).filter mayB ++ (if mayB (L.getD i lz) then [L.getD i lz] else []) := by
  rw [List.take_add_one, List.filter_append]
  simp [hi, List.filter_cons]
set_option maxHeartbeats 1000000 in
theorem f11 (L : List Line) (hL : L.length < 2 ^ 48) (hB : ∀ l ∈ L, LineB l) : PureCall Tryd.prog 11 [.pv (linesP L)] (bb true) := by
  refine PureCall.run tab_ok mixed (by kernel_rfl) Tryd.func11 rfl rfl rfl ?_
  conv => whnf
  repeat (first | ((with_reducible first | apply ga | apply gb | apply gc | apply gd | apply ge | apply gf | apply gg | apply gh | apply gi | apply gj); conv => whnf) | (refine ⟨⟨rfl, rfl, nle rfl, nle rfl⟩, ?_⟩; conv => whnf) | fail)
  refine ⟨fun h5 => ?_, fun h5 => ?_⟩ <;> replace h5 := nm h5 <;> (try simp only [Int.toNat_zero] at h5) <;> (try simp only [Int.toNat_one] at h5)
  · conv => whnf
    repeat (first | ((with_reducible first | apply ga | apply gb | apply gc | apply gd | apply ge | apply gf | apply gg | apply gh | apply gi | apply gj); conv => whnf) | (refine ⟨⟨rfl, rfl, nle rfl, nle rfl⟩, ?_⟩; conv => whnf) | fail)
    refine CallK.flat [] f18 trivial rfl ?_
    conv => whnf
    repeat (first | ((with_reducible first | apply ga | apply gb | apply gc | apply gd | apply ge | apply gf | apply gg | apply gh | apply gi | apply gj); conv => whnf) | (refine ⟨⟨rfl, rfl, nle rfl, nle rfl⟩, ?_⟩; conv => whnf) | fail)
    exact done_bool _ _ rfl rfl rfl
  · conv => whnf
    repeat (first | ((with_reducible first | apply ga | apply gb | apply gc | apply gd | apply ge | apply gf | apply gg | apply gh | apply gi | apply gj); conv => whnf) | (refine ⟨⟨rfl, rfl, nle rfl, nle rfl⟩, ?_⟩; conv => whnf) | fail)
    refine ex_loop tab_ok mixed (fun x : Nat × List Line × Nat => x.1 ≤ L.length ∧ x.2.1 = (L.take x.1).filter mayB) (fun x => mkSt 91 [(0, .pv (linesP L)), (3, st (srcM x.2.1)), (4, .row 1004 x.2.2 5 0 x.2.1.length), (5, i64 x.1)] [(1004, rowA 32 5 Line.p lz x.2.2 x.2.1)]) (fun x => L.length - x.1) (0, [], 0) ⟨Nat.zero_le _, rfl⟩ (SubS.mkN [] [] rfl rfl rfl ⟨⟨_, rfl, .same⟩, ⟨_, rfl, .same⟩, ⟨_, rfl, .void _ _ _⟩, ⟨_, rfl, .same⟩, trivial⟩ ⟨.inr ⟨rfl, rfl⟩, trivial⟩) ?_
    rintro ⟨i, M, g⟩ ⟨hi, hM⟩
    dsimp only at hi hM ⊢
    have hMl : M.length ≤ 500 := by rw [hM]; exact Nat.le_trans (List.length_filter_le _ _) (by simp; omega)
    have hMm : ∀ l ∈ M, mayB l = true := fun l hl => by rw [hM] at hl; exact (List.mem_filter.mp hl).2
    have hSl := srcM_len M hMm
    conv => whnf
    repeat (first | ((with_reducible first | apply ga | apply gb | apply gc | apply gd | apply ge | apply gf | apply gg | apply gh | apply gi | apply gj); conv => whnf) | (refine ⟨⟨rfl, rfl, nle rfl, nle rfl⟩, ?_⟩; conv => whnf) | fail)
    refine ⟨fun hc => ?_, fun hc => ?_⟩ <;> replace hc := nm hc <;> (try simp only [Int.toNat_zero] at hc) <;> (try simp only [Int.toNat_one] at hc)
    · have hlt : i < L.length := by omega
      have hx : L.getD i lz ∈ L := by rw [List.getD_eq_getElem?_getD, List.getElem?_eq_getElem hlt]; exact List.getElem_mem hlt
      have hst := take_filter hlt
      rw [← hM] at hst
      have c1 := f23 (L.getD i lz) (hB _ hx)
      have c2 := f21 (txt (L.getD i lz))
      conv => whnf
      repeat (first | ((with_reducible first | apply ga | apply gb | apply gc | apply gd | apply ge | apply gf | apply gg | apply gh | apply gi | apply gj); conv => whnf) | (refine ⟨⟨rfl, rfl, nle rfl, nle rfl⟩, ?_⟩; conv => whnf) | fail)
      refine ⟨⟨by omega, by omega, rfl⟩, ?_⟩
      conv => whnf
      repeat (first | ((with_reducible first | apply ga | apply gb | apply gc | apply gd | apply ge | apply gf | apply gg | apply gh | apply gi | apply gj); conv => whnf) | (refine ⟨⟨rfl, rfl, nle rfl, nle rfl⟩, ?_⟩; conv => whnf) | fail)
      refine ⟨⟨by decide⟩, ?_⟩
      conv => whnf
      repeat (first | ((with_reducible first | apply ga | apply gb | apply gc | apply gd | apply ge | apply gf | apply gg | apply gh | apply gi | apply gj); conv => whnf) | (refine ⟨⟨rfl, rfl, nle rfl, nle rfl⟩, ?_⟩; conv => whnf) | fail)
      rw [print_may] at c1
      cases hm : mayB (L.getD i lz) with
      | false =>
        rw [hm, if_neg (by decide)] at hst
        rw [hm, if_pos (by decide)] at c1
        refine CallK.flat [] c1 ⟨agg5 .same .same .same .same .same, trivial⟩ rfl ?_
        conv => whnf
        repeat (first | ((with_reducible first | apply ga | apply gb | apply gc | apply gd | apply ge | apply gf | apply gg | apply gh | apply gi | apply gj); conv => whnf) | (refine ⟨⟨rfl, rfl, nle rfl, nle rfl⟩, ?_⟩; conv => whnf) | fail)
        repeat (first | ((with_reducible first | apply ga | apply gb | apply gc | apply gd | apply ge | apply gf | apply gg | apply gh | apply gi | apply gj); conv => whnf) | (refine ⟨⟨rfl, rfl, nle rfl, nle rfl⟩, ?_⟩; conv => whnf) | (refine ⟨fun _ => ?_, fun h => absurd h (by decide)⟩; conv => whnf) | (refine ⟨fun h => absurd h (by decide), fun _ => ?_⟩; conv => whnf) | fail)
        refine ⟨⟨by unfold inI64; omega⟩, ?_⟩
        conv => whnf
        repeat (first | ((with_reducible first | apply ga | apply gb | apply gc | apply gd | apply ge | apply gf | apply gg | apply gh | apply gi | apply gj); conv => whnf) | (refine ⟨⟨rfl, rfl, nle rfl, nle rfl⟩, ?_⟩; conv => whnf) | fail)
        exact ⟨(i + 1, M, g), ⟨hlt, by dsimp only; rw [hst, List.append_nil]⟩, SubS.mkN [] [(1004, 1004)] rfl rfl rfl ⟨⟨_, rfl, .same⟩, ⟨_, rfl, .same⟩, ⟨_, rfl, .row _ _ _ _ _ _ _ _ _ rfl rfl rfl rfl⟩, ⟨_, rfl, .same⟩, trivial⟩ ⟨.inl ⟨_, _, rfl, rfl, rfl, OLe.keepA⟩, trivial⟩, by dsimp only; omega⟩
      | true =>
        obtain ⟨s1, s2, s3⟩ := scan_print hm
        rw [hm, if_pos rfl] at hst
        rw [hm, if_neg (by decide)] at c1
        have c2 := c2 (B62_of s2 (by decide))
        rw [show scan (txt (L.getD i lz)) = (L.getD i lz, 0, 0) from s1] at c2
        refine CallK.flat [] c1 ⟨agg5 .same .same .same .same .same, trivial⟩ rfl ?_
        conv => whnf
        repeat (first | ((with_reducible first | apply ga | apply gb | apply gc | apply gd | apply ge | apply gf | apply gg | apply gh | apply gi | apply gj); conv => whnf) | (refine ⟨⟨rfl, rfl, nle rfl, nle rfl⟩, ?_⟩; conv => whnf) | fail)
        refine ⟨fun h => absurd h (by simp), fun _ => ?_⟩
        conv => whnf
        repeat (first | ((with_reducible first | apply ga | apply gb | apply gc | apply gd | apply ge | apply gf | apply gg | apply gh | apply gi | apply gj); conv => whnf) | (refine ⟨⟨rfl, rfl, nle rfl, nle rfl⟩, ?_⟩; conv => whnf) | fail)
        refine CallK.flat [] c2 ⟨.same, trivial⟩ rfl ?_
        conv => whnf
        repeat (first | ((with_reducible first | apply ga | apply gb | apply gc | apply gd | apply ge | apply gf | apply gg | apply gh | apply gi | apply gj); conv => whnf) | (refine ⟨⟨rfl, rfl, nle rfl, nle rfl⟩, ?_⟩; conv => whnf) | fail)
        refine ⟨fun _ => ?_, fun h => absurd h (by simp)⟩
        conv => whnf
        repeat (first | ((with_reducible first | apply ga | apply gb | apply gc | apply gd | apply ge | apply gf | apply gg | apply gh | apply gi | apply gj); conv => whnf) | (refine ⟨⟨rfl, rfl, nle rfl, nle rfl⟩, ?_⟩; conv => whnf) | fail)
        refine ⟨fun _ => ?_, fun h => absurd h (by simp)⟩
        conv => whnf
        repeat (first | ((with_reducible first | apply ga | apply gb | apply gc | apply gd | apply ge | apply gf | apply gg | apply gh | apply gi | apply gj); conv => whnf) | (refine ⟨⟨rfl, rfl, nle rfl, nle rfl⟩, ?_⟩; conv => whnf) | fail)
        have hSn : (txt (L.getD i lz)).length ≤ 60 := s2
        have hSn' : (hd (L.getD i lz) ++ tl (L.getD i lz).arg).length ≤ 60 := s2
        refine ⟨⟨by omega, by omega, rfl⟩, ?_⟩
        conv => whnf
        repeat (first | ((with_reducible first | apply ga | apply gb | apply gc | apply gd | apply ge | apply gf | apply gg | apply gh | apply gi | apply gj); conv => whnf) | (refine ⟨⟨rfl, rfl, nle rfl, nle rfl⟩, ?_⟩; conv => whnf) | fail)
        refine ⟨⟨by decide⟩, ?_⟩
        conv => whnf
        repeat (first | ((with_reducible first | apply ga | apply gb | apply gc | apply gd | apply ge | apply gf | apply gg | apply gh | apply gi | apply gj); conv => whnf) | (refine ⟨⟨rfl, rfl, nle rfl, nle rfl⟩, ?_⟩; conv => whnf) | fail)
        refine ⟨rfl, ?_⟩
        conv => whnf
        repeat (first | ((with_reducible first | apply ga | apply gb | apply gc | apply gd | apply ge | apply gf | apply gg | apply gh | apply gi | apply gj); conv => whnf) | (refine ⟨⟨rfl, rfl, nle rfl, nle rfl⟩, ?_⟩; conv => whnf) | fail)
        refine ⟨fun h => absurd h (by simp), fun _ => ?_⟩
        conv => whnf
        repeat (first | ((with_reducible first | apply ga | apply gb | apply gc | apply gd | apply ge | apply gf | apply gg | apply gh | apply gi | apply gj); conv => whnf) | (refine ⟨⟨rfl, rfl, nle rfl, nle rfl⟩, ?_⟩; conv => whnf) | fail)
        refine ⟨⟨by dsimp only; omega⟩, ?_⟩
        conv => whnf
        repeat (first | ((with_reducible first | apply ga | apply gb | apply gc | apply gd | apply ge | apply gf | apply gg | apply gh | apply gi | apply gj); conv => whnf) | (refine ⟨⟨rfl, rfl, nle rfl, nle rfl⟩, ?_⟩; conv => whnf) | fail)
        refine ⟨⟨by rw [List.length_append]; dsimp only; simp only [List.length_cons, List.length_nil]; omega⟩, ?_⟩
        conv => whnf
        repeat (first | ((with_reducible first | apply ga | apply gb | apply gc | apply gd | apply ge | apply gf | apply gg | apply gh | apply gi | apply gj); conv => whnf) | (refine ⟨⟨rfl, rfl, nle rfl, nle rfl⟩, ?_⟩; conv => whnf) | fail)
        refine ⟨⟨by omega, by omega, rfl⟩, ?_⟩
        conv => whnf
        repeat (first | ((with_reducible first | apply ga | apply gb | apply gc | apply gd | apply ge | apply gf | apply gg | apply gh | apply gi | apply gj); conv => whnf) | (refine ⟨⟨rfl, rfl, nle rfl, nle rfl⟩, ?_⟩; conv => whnf) | fail)
        refine ⟨⟨by decide⟩, ?_⟩
        conv => whnf
        repeat (first | ((with_reducible first | apply ga | apply gb | apply gc | apply gd | apply ge | apply gf | apply gg | apply gh | apply gi | apply gj); conv => whnf) | (refine ⟨⟨rfl, rfl, nle rfl, nle rfl⟩, ?_⟩; conv => whnf) | fail)
        refine ⟨⟨⟨rfl, rfl, rfl, nle rfl⟩, rfl, rfl, rfl, rfl, rfl, rfl, show (M.length + 1) * 64 ≤ 140737488355328 by omega⟩, ?_⟩
        conv => whnf
        repeat (first | ((with_reducible first | apply ga | apply gb | apply gc | apply gd | apply ge | apply gf | apply gg | apply gh | apply gi | apply gj); conv => whnf) | (refine ⟨⟨rfl, rfl, nle rfl, nle rfl⟩, ?_⟩; conv => whnf) | fail)
        refine ⟨⟨by unfold inI64; omega⟩, ?_⟩
        conv => whnf
        repeat (first | ((with_reducible first | apply ga | apply gb | apply gc | apply gd | apply ge | apply gf | apply gg | apply gh | apply gi | apply gj); conv => whnf) | (refine ⟨⟨rfl, rfl, nle rfl, nle rfl⟩, ?_⟩; conv => whnf) | fail)
        refine ⟨(i + 1, M ++ [L.getD i lz], g + 1), ⟨hlt, hst.symm⟩, SubS.mkN [] [(1004, 1004)] rfl rfl rfl ⟨⟨_, rfl, .same⟩, ⟨_, rfl, ?_⟩, ⟨_, rfl, .row _ _ _ _ _ _ _ _ _ rfl rfl rfl (by simp)⟩, ⟨_, rfl, .same⟩, trivial⟩ ⟨.inl ⟨_, _, rfl, rfl, rfl, OLe.snocA rfl rfl rfl rfl rfl fun j hj => ?_⟩, trivial⟩, by dsimp only; omega⟩
        · have e : srcM (M ++ [L.getD i lz]) = srcM M ++ txt (L.getD i lz) ++ [10] := by unfold srcM; rw [List.flatMap_append]; simp
          rw [e]; exact .same
        · match j, hj with
          | 0, _ => exact .same
          | 1, _ => exact .same
          | 2, _ => exact .same
          | 3, _ => exact .same
          | 4, _ => exact .same
    · have c3 := f28 (srcM M) (by unfold B62; omega)
      rw [scanAll_src M hMm hMl] at c3
      conv => whnf
      repeat (first | ((with_reducible first | apply ga | apply gb | apply gc | apply gd | apply ge | apply gf | apply gg | apply gh | apply gi | apply gj); conv => whnf) | (refine ⟨⟨rfl, rfl, nle rfl, nle rfl⟩, ?_⟩; conv => whnf) | fail)
      refine CallK.drop [] c3 ⟨.same, trivial⟩ ?_
      conv => whnf
      repeat (first | ((with_reducible first | apply ga | apply gb | apply gc | apply gd | apply ge | apply gf | apply gg | apply gh | apply gi | apply gj); conv => whnf) | (refine ⟨⟨rfl, rfl, nle rfl, nle rfl⟩, ?_⟩; conv => whnf) | fail)
      repeat (first | ((with_reducible first | apply ga | apply gb | apply gc | apply gd | apply ge | apply gf | apply gg | apply gh | apply gi | apply gj); conv => whnf) | (refine ⟨⟨rfl, rfl, nle rfl, nle rfl⟩, ?_⟩; conv => whnf) | (refine ⟨fun _ => ?_, fun h => absurd h (by simp)⟩; conv => whnf) | fail)
      refine CallK.flat [1004] (f30 M (by omega)) ⟨VLe.seqA, VLe.frzA rfl rfl rfl, trivial⟩ rfl ?_
      conv => whnf
      repeat (first | ((with_reducible first | apply ga | apply gb | apply gc | apply gd | apply ge | apply gf | apply gg | apply gh | apply gi | apply gj); conv => whnf) | (refine ⟨⟨rfl, rfl, nle rfl, nle rfl⟩, ?_⟩; conv => whnf) | fail)
      repeat (first | ((with_reducible first | apply ga | apply gb | apply gc | apply gd | apply ge | apply gf | apply gg | apply gh | apply gi | apply gj); conv => whnf) | (refine ⟨⟨rfl, rfl, nle rfl, nle rfl⟩, ?_⟩; conv => whnf) | (refine CallK.flat [] f18 trivial rfl ?_; conv => whnf) | (refine ⟨fun _ => ?_, fun h => absurd h (by simp)⟩; conv => whnf) | fail)
      exact done_bool _ _ rfl rfl rfl
end Go.Proofs.YtdoeiccibhabcaaDoor

namespace Go.Proofs.YtdoeiccibhabcaaDoor
open Go Go.AM
attribute [local irreducible] AWP CallK PureCall SubS HeapCall
theorem lnsF_app (b : List UInt8) : ∀ (s cur : List UInt8), lnsF cur (s ++ 10 :: b) = lnsF cur (s ++ [10]) ++ lns b
  | [], cur => by simp [lnsF, lns]
  | c :: s, cur => by
    simp only [List.cons_append, lnsF]
    split
    · rw [lnsF_app b s]; rfl
    · rw [lnsF_app b s]
theorem scanL_app (M : List (List UInt8)) : ∀ (N : List (List UInt8)) (acc : List Line), scanL (N ++ M) acc = if (scanL N acc).2.2 ≠ 0 then scanL N acc else scanL M (scanL N acc).1
  | [], acc => by simp [scanL]
  | x :: N, acc => by
    simp only [List.cons_append, scanL]
    split
    · rename_i h; simp only [if_pos h]
    · exact scanL_app M N _
theorem scanL_acc : ∀ (N : List (List UInt8)) (acc : List Line), ((scanL N []).2.2 ≠ 0 → scanL N acc = ([], acc.length + (scanL N []).2.1, (scanL N []).2.2) ∧ (scanL N []).1 = []) ∧ ((scanL N []).2.2 = 0 → scanL N acc = (acc ++ (scanL N []).1, 0, 0) ∧ (scanL N []).2.1 = 0) := by
  have key : ∀ (N : List (List UInt8)) (a acc : List Line), ((scanL N a).2.2 ≠ 0 → scanL N (acc ++ a) = ([], acc.length + (scanL N a).2.1, (scanL N a).2.2) ∧ (scanL N a).1 = []) ∧ ((scanL N a).2.2 = 0 → scanL N (acc ++ a) = (acc ++ (scanL N a).1, 0, 0) ∧ (scanL N a).2.1 = 0) := by
    intro N
    induction N with
    | nil => intro a acc; exact ⟨fun h => absurd rfl h, fun _ => ⟨rfl, rfl⟩⟩
    | cons x N ih =>
      intro a acc
      simp only [scanL]
      split
      · rename_i h
        refine ⟨fun _ => ⟨?_, rfl⟩, fun h2 => absurd h2 h⟩
        simp only [List.length_append, Prod.mk.injEq, true_and, and_true]
        omega
      · rw [List.append_assoc]
        exact ih _ acc
  intro N acc
  have := key N [] acc
  rwa [List.append_nil] at this
theorem scanL_lz (N : List (List UInt8)) : (scanL N []).2.2 = 0 → (scanL N []).1.length ≤ N.length := fun _ => by
  have := scanL_len N []
  simpa using this
theorem scanL_at : ∀ (N : List (List UInt8)) (acc : List Line), 0 ≤ (scanL N acc).2.1 ∧ (scanL N acc).2.1 ≤ acc.length + N.length
  | [], acc => by simp [scanL]
  | x :: N, acc => by
    simp only [scanL]
    split
    · simp only [List.length_cons]; omega
    · have := scanL_at N (acc ++ [(scan x).1]); simp only [List.length_append, List.length_cons, List.length_nil] at *; omega
/-- Two sources, one after the other. -/
theorem scanAll_app {a b : List UInt8} (h : (a ++ [10]).length + b.length ≤ 65536) :
    ((scanAll (a ++ [10])).2.2 ≠ 0 → scanAll (a ++ [10] ++ b) = ([], (scanAll (a ++ [10])).2.1, (scanAll (a ++ [10])).2.2)) ∧
    ((scanAll (a ++ [10])).2.2 = 0 → (scanAll b).2.2 ≠ 0 → scanAll (a ++ [10] ++ b) = ([], (scanAll (a ++ [10])).1.length + (scanAll b).2.1, (scanAll b).2.2)) ∧
    ((scanAll (a ++ [10])).2.2 = 0 → (scanAll b).2.2 = 0 → scanAll (a ++ [10] ++ b) = ((scanAll (a ++ [10])).1 ++ (scanAll b).1, 0, 0)) := by
  have e1 : scanAll (a ++ [10]) = scanL (lns (a ++ [10])) [] := by unfold scanAll; rw [if_neg (by omega)]
  have e2 : scanAll b = scanL (lns b) [] := by unfold scanAll; rw [if_neg (by omega)]
  have e3 : scanAll (a ++ [10] ++ b) = scanL (lns (a ++ [10]) ++ lns b) [] := by
    unfold scanAll
    rw [if_neg (by rw [List.length_append]; omega), List.append_assoc, List.singleton_append, show lns (a ++ 10 :: b) = lns (a ++ [10]) ++ lns b from lnsF_app b a []]
  rw [e1, e2, e3, scanL_app]
  have k1 := scanL_acc (lns (a ++ [10])) []
  have k2 := scanL_acc (lns b) (scanL (lns (a ++ [10])) []).1
  refine ⟨fun h => ?_, fun h h2 => ?_, fun h h2 => ?_⟩
  · rw [if_pos h]
    have := (k1.1 h).1
    simp only [List.length_nil, Int.natCast_zero, Int.zero_add] at this
    exact this
  · rw [if_neg (by simpa using h)]
    exact (k2.1 h2).1
  · rw [if_neg (by simpa using h)]
    exact (k2.2 h2).1
theorem f12 (a b : List UInt8) (ha : a.length < 2 ^ 48) (hb : b.length < 2 ^ 48) : PureCall Tryd.prog 12 [st a, st b] (bb true) := by
  have hl : (a ++ [10]).length = a.length + 1 := by simp
  have hl2 : (a ++ ({ data := #[10] } : ByteArray).data.toList).length = a.length + 1 := hl
  refine PureCall.run tab_ok mixed (by kernel_rfl) Tryd.func12 rfl rfl rfl ?_
  conv => whnf
  repeat (first | ((with_reducible first | apply ga | apply gb | apply gc | apply gd | apply ge | apply gf | apply gg | apply gh | apply gi | apply gj); conv => whnf) | (refine ⟨⟨rfl, rfl, nle rfl, nle rfl⟩, ?_⟩; conv => whnf) | fail)
  refine ⟨⟨by simp only [List.length_cons, List.length_nil]; omega⟩, ?_⟩
  conv => whnf
  repeat (first | ((with_reducible first | apply ga | apply gb | apply gc | apply gd | apply ge | apply gf | apply gg | apply gh | apply gi | apply gj); conv => whnf) | (refine ⟨⟨rfl, rfl, nle rfl, nle rfl⟩, ?_⟩; conv => whnf) | fail)
  refine ⟨⟨by unfold inI64; omega⟩, ?_⟩
  conv => whnf
  repeat (first | ((with_reducible first | apply ga | apply gb | apply gc | apply gd | apply ge | apply gf | apply gg | apply gh | apply gi | apply gj); conv => whnf) | (refine ⟨⟨rfl, rfl, nle rfl, nle rfl⟩, ?_⟩; conv => whnf) | fail)
  refine ⟨fun h5 => ?_, fun h5 => ?_⟩ <;> replace h5 := nm h5 <;> (try simp only [Int.toNat_zero] at h5) <;> (try simp only [Int.toNat_one] at h5)
  · conv => whnf
    repeat (first | ((with_reducible first | apply ga | apply gb | apply gc | apply gd | apply ge | apply gf | apply gg | apply gh | apply gi | apply gj); conv => whnf) | (refine ⟨⟨rfl, rfl, nle rfl, nle rfl⟩, ?_⟩; conv => whnf) | fail)
    refine CallK.flat [] f18 trivial rfl ?_
    conv => whnf
    repeat (first | ((with_reducible first | apply ga | apply gb | apply gc | apply gd | apply ge | apply gf | apply gg | apply gh | apply gi | apply gj); conv => whnf) | (refine ⟨⟨rfl, rfl, nle rfl, nle rfl⟩, ?_⟩; conv => whnf) | fail)
    exact done_bool _ _ rfl rfl rfl
  · obtain ⟨p1, p2, p3⟩ := scanAll_app (a := a) (b := b) (by omega)
    have l1 := scanAll_len (a ++ [10])
    have l2 := scanAll_len b
    have c1 := f28 (a ++ [10]) (by unfold B62; omega)
    have c2 := f28 b (by unfold B62; omega)
    have c3 := f28 (a ++ [10] ++ b) (by unfold B62; rw [List.length_append]; omega)
    have at0 : scanAll b = scanL (lns b) [] := by unfold scanAll; rw [if_neg (by omega)]
    have at1 : 0 ≤ (scanAll b).2.1 ∧ (scanAll b).2.1 ≤ 65537 := by
      have h1 := scanL_at (lns b) []
      have := (lns_bd b).1
      rw [← at0] at h1
      simp only [List.length_nil] at h1
      omega
    conv => whnf
    repeat (first | ((with_reducible first | apply ga | apply gb | apply gc | apply gd | apply ge | apply gf | apply gg | apply gh | apply gi | apply gj); conv => whnf) | (refine ⟨⟨rfl, rfl, nle rfl, nle rfl⟩, ?_⟩; conv => whnf) | fail)
    refine CallK.drop [] c1 ⟨.same, trivial⟩ ?_
    conv => whnf
    repeat (first | ((with_reducible first | apply ga | apply gb | apply gc | apply gd | apply ge | apply gf | apply gg | apply gh | apply gi | apply gj); conv => whnf) | (refine ⟨⟨rfl, rfl, nle rfl, nle rfl⟩, ?_⟩; conv => whnf) | fail)
    refine CallK.drop [] c2 ⟨.same, trivial⟩ ?_
    conv => whnf
    repeat (first | ((with_reducible first | apply ga | apply gb | apply gc | apply gd | apply ge | apply gf | apply gg | apply gh | apply gi | apply gj); conv => whnf) | (refine ⟨⟨rfl, rfl, nle rfl, nle rfl⟩, ?_⟩; conv => whnf) | fail)
    refine ⟨⟨by omega⟩, ?_⟩
    conv => whnf
    repeat (first | ((with_reducible first | apply ga | apply gb | apply gc | apply gd | apply ge | apply gf | apply gg | apply gh | apply gi | apply gj); conv => whnf) | (refine ⟨⟨rfl, rfl, nle rfl, nle rfl⟩, ?_⟩; conv => whnf) | fail)
    refine CallK.drop [] c3 ⟨.same, trivial⟩ ?_
    conv => whnf
    repeat (first | ((with_reducible first | apply ga | apply gb | apply gc | apply gd | apply ge | apply gf | apply gg | apply gh | apply gi | apply gj); conv => whnf) | (refine ⟨⟨rfl, rfl, nle rfl, nle rfl⟩, ?_⟩; conv => whnf) | fail)
    refine ⟨fun h6 => ?_, fun h6 => ?_⟩ <;> replace h6 := nm h6 <;> (try simp only [Int.toNat_zero] at h6) <;> (try simp only [Int.toNat_one] at h6)
    · rw [p1 h6]
      conv => whnf
      repeat (first | ((with_reducible first | apply ga | apply gb | apply gc | apply gd | apply ge | apply gf | apply gg | apply gh | apply gi | apply gj); conv => whnf) | (refine ⟨⟨rfl, rfl, nle rfl, nle rfl⟩, ?_⟩; conv => whnf) | fail)
      repeat (first | ((with_reducible first | apply ga | apply gb | apply gc | apply gd | apply ge | apply gf | apply gg | apply gh | apply gi | apply gj); conv => whnf) | (refine ⟨⟨rfl, rfl, nle rfl, nle rfl⟩, ?_⟩; conv => whnf) | (refine CallK.flat [] f18 trivial rfl ?_; conv => whnf) | (refine ⟨fun _ => ?_, fun h => absurd h (by simp)⟩; conv => whnf) | fail)
      exact done_bool _ _ rfl rfl rfl
    · conv => whnf
      repeat (first | ((with_reducible first | apply ga | apply gb | apply gc | apply gd | apply ge | apply gf | apply gg | apply gh | apply gi | apply gj); conv => whnf) | (refine ⟨⟨rfl, rfl, nle rfl, nle rfl⟩, ?_⟩; conv => whnf) | fail)
      refine ⟨fun h7 => ?_, fun h7 => ?_⟩ <;> replace h7 := nm h7 <;> (try simp only [Int.toNat_zero] at h7) <;> (try simp only [Int.toNat_one] at h7)
      · rw [p2 h6 h7]
        conv => whnf
        repeat (first | ((with_reducible first | apply ga | apply gb | apply gc | apply gd | apply ge | apply gf | apply gg | apply gh | apply gi | apply gj); conv => whnf) | (refine ⟨⟨rfl, rfl, nle rfl, nle rfl⟩, ?_⟩; conv => whnf) | fail)
        refine ⟨fun _ => ?_, fun h => absurd h (by simp)⟩
        conv => whnf
        repeat (first | ((with_reducible first | apply ga | apply gb | apply gc | apply gd | apply ge | apply gf | apply gg | apply gh | apply gi | apply gj); conv => whnf) | (refine ⟨⟨rfl, rfl, nle rfl, nle rfl⟩, ?_⟩; conv => whnf) | fail)
        refine ⟨⟨by unfold inI64; omega⟩, ?_⟩
        conv => whnf
        repeat (first | ((with_reducible first | apply ga | apply gb | apply gc | apply gd | apply ge | apply gf | apply gg | apply gh | apply gi | apply gj); conv => whnf) | (refine ⟨⟨rfl, rfl, nle rfl, nle rfl⟩, ?_⟩; conv => whnf) | fail)
        repeat (first | ((with_reducible first | apply ga | apply gb | apply gc | apply gd | apply ge | apply gf | apply gg | apply gh | apply gi | apply gj); conv => whnf) | (refine ⟨⟨rfl, rfl, nle rfl, nle rfl⟩, ?_⟩; conv => whnf) | (refine CallK.flat [] f18 trivial rfl ?_; conv => whnf) | (refine ⟨fun _ => ?_, fun h => absurd h (by simp)⟩; conv => whnf) | fail)
        exact done_bool _ _ rfl rfl rfl
      · rw [p3 h6 h7]
        conv => whnf
        repeat (first | ((with_reducible first | apply ga | apply gb | apply gc | apply gd | apply ge | apply gf | apply gg | apply gh | apply gi | apply gj); conv => whnf) | (refine ⟨⟨rfl, rfl, nle rfl, nle rfl⟩, ?_⟩; conv => whnf) | fail)
        repeat (first | ((with_reducible first | apply ga | apply gb | apply gc | apply gd | apply ge | apply gf | apply gg | apply gh | apply gi | apply gj); conv => whnf) | (refine ⟨⟨rfl, rfl, nle rfl, nle rfl⟩, ?_⟩; conv => whnf) | (refine CallK.flat [] f18 trivial rfl ?_; conv => whnf) | (refine ⟨fun _ => ?_, fun h => absurd h (by simp)⟩; conv => whnf) | fail)
        have b1 : (0 + (scanAll (a ++ [10])).1.length) * 64 ≤ 140737488355328 := by omega
        have b2 : (0 + (scanAll (a ++ [10])).1.length + (scanAll b).1.length) * 64 ≤ 140737488355328 := by omega
        refine ⟨⟨rfl, rfl, rfl, rfl, rfl, rfl, rfl, b1⟩, ?_⟩
        conv => whnf
        repeat (first | ((with_reducible first | apply ga | apply gb | apply gc | apply gd | apply ge | apply gf | apply gg | apply gh | apply gi | apply gj); conv => whnf) | (refine ⟨⟨rfl, rfl, nle rfl, nle rfl⟩, ?_⟩; conv => whnf) | fail)
        refine ⟨⟨rfl, rfl, rfl, rfl, rfl, rfl, rfl, b2⟩, ?_⟩
        conv => whnf
        repeat (first | ((with_reducible first | apply ga | apply gb | apply gc | apply gd | apply ge | apply gf | apply gg | apply gh | apply gi | apply gj); conv => whnf) | (refine ⟨⟨rfl, rfl, nle rfl, nle rfl⟩, ?_⟩; conv => whnf) | fail)
        refine CallK.flat [90] (f30 ((scanAll (a ++ [10])).1 ++ (scanAll b).1) (by rw [List.length_append]; omega)) ⟨VLe.seqA, VLe.frzO (g := 2) rfl rfl (L := (scanAll (a ++ [10])).1 ++ (scanAll b).1) (CellsA.row ?_ rfl rfl (by rw [List.length_append, Nat.zero_add])) (by rw [List.length_append, Nat.zero_add]), trivial⟩ rfl ?_
        · dsimp only
          refine CellsA.cat ?_ (Nat.zero_add _) (fun _ _ _ _ => .same)
          rw [← List.nil_append (scanAll (a ++ [10])).1]
          exact CellsA.cat (L := []) (fun i j hi _ => absurd hi (Nat.not_lt_zero _)) rfl (fun _ _ _ _ => .same)
        conv => whnf
        repeat (first | ((with_reducible first | apply ga | apply gb | apply gc | apply gd | apply ge | apply gf | apply gg | apply gh | apply gi | apply gj); conv => whnf) | (refine ⟨⟨rfl, rfl, nle rfl, nle rfl⟩, ?_⟩; conv => whnf) | fail)
        repeat (first | ((with_reducible first | apply ga | apply gb | apply gc | apply gd | apply ge | apply gf | apply gg | apply gh | apply gi | apply gj); conv => whnf) | (refine ⟨⟨rfl, rfl, nle rfl, nle rfl⟩, ?_⟩; conv => whnf) | (refine CallK.flat [] f18 trivial rfl ?_; conv => whnf) | (refine ⟨fun _ => ?_, fun h => absurd h (by simp)⟩; conv => whnf) | fail)
        exact done_bool _ _ rfl rfl rfl
end Go.Proofs.YtdoeiccibhabcaaDoor

namespace Go.Proofs.YtdoeiccibhabcaaDoor
open Go Go.AM
attribute [local irreducible] AWP CallK PureCall SubS HeapCall
theorem VLe.eq {H : Heap} {B : List Nat} {U : List (Nat × Nat)} {p q : PV} (h : p = q) : VLe H B U (.pv p) (.pv q) := h ▸ .same
theorem f31 (s : List UInt8) (hs : B62 s) (h : num s = (0, 5)) : PureCall Tryd.prog 31 [st s] (bb true) := by
  have c := f14 s hs
  rw [h] at c
  refine PureCall.run tab_ok mixed (by kernel_rfl) Tryd.func31 rfl rfl rfl ?_
  conv => whnf
  repeat (first | ((with_reducible first | apply ga | apply gb | apply gc | apply gd | apply ge | apply gf | apply gg | apply gh | apply gi | apply gj); conv => whnf) | (refine ⟨⟨rfl, rfl, nle rfl, nle rfl⟩, ?_⟩; conv => whnf) | fail)
  refine CallK.flat [] c ⟨.same, trivial⟩ rfl ?_
  conv => whnf
  repeat (first | ((with_reducible first | apply ga | apply gb | apply gc | apply gd | apply ge | apply gf | apply gg | apply gh | apply gi | apply gj); conv => whnf) | (refine ⟨⟨rfl, rfl, nle rfl, nle rfl⟩, ?_⟩; conv => whnf) | fail)
  repeat (first | ((with_reducible first | apply ga | apply gb | apply gc | apply gd | apply ge | apply gf | apply gg | apply gh | apply gi | apply gj); conv => whnf) | (refine ⟨⟨rfl, rfl, nle rfl, nle rfl⟩, ?_⟩; conv => whnf) | (refine ⟨fun _ => ?_, fun h => absurd h (by decide +kernel)⟩; conv => whnf) | (refine ⟨fun h => absurd h (by decide +kernel), fun _ => ?_⟩; conv => whnf) | fail)
  exact done_bool _ _ rfl rfl rfl
theorem f32 (s : List UInt8) (a e : Int) (hs : B62 s) (h : opnd s = (az, a, e)) : PureCall Tryd.prog 32 [st s, i64 a, i64 e] (bb true) := by
  have c := f19 s hs
  rw [h] at c
  refine PureCall.run tab_ok mixed (by kernel_rfl) Tryd.func32 rfl rfl rfl ?_
  conv => whnf
  repeat (first | ((with_reducible first | apply ga | apply gb | apply gc | apply gd | apply ge | apply gf | apply gg | apply gh | apply gi | apply gj); conv => whnf) | (refine ⟨⟨rfl, rfl, nle rfl, nle rfl⟩, ?_⟩; conv => whnf) | fail)
  refine CallK.flat [] c ⟨.same, trivial⟩ rfl ?_
  conv => whnf
  repeat (first | ((with_reducible first | apply ga | apply gb | apply gc | apply gd | apply ge | apply gf | apply gg | apply gh | apply gi | apply gj); conv => whnf) | (refine ⟨⟨rfl, rfl, nle rfl, nle rfl⟩, ?_⟩; conv => whnf) | fail)
  refine ⟨fun _ => ?_, fun h => absurd h (by simp [az])⟩
  conv => whnf
  repeat (first | ((with_reducible first | apply ga | apply gb | apply gc | apply gd | apply ge | apply gf | apply gg | apply gh | apply gi | apply gj); conv => whnf) | (refine ⟨⟨rfl, rfl, nle rfl, nle rfl⟩, ?_⟩; conv => whnf) | fail)
  repeat (first | ((with_reducible first | apply ga | apply gb | apply gc | apply gd | apply ge | apply gf | apply gg | apply gh | apply gi | apply gj); conv => whnf) | (refine ⟨⟨rfl, rfl, nle rfl, nle rfl⟩, ?_⟩; conv => whnf) | (refine ⟨fun _ => ?_, fun h => absurd h (by simp)⟩; conv => whnf) | fail)
  exact done_bool _ _ rfl rfl (by simp)
theorem k16 (s : List UInt8) (b : Bool) (hs : B62 s) (h : isName s = b) : PureCall Tryd.prog 16 [st s] (bb b) := by rw [← h]; exact f16 s hs
theorem long (k : Nat) : scan ([65] ++ List.replicate (k + 120) 32) = (lz, 120, 4) := by
  unfold scan
  rw [if_pos (by simp; omega)]
theorem kall : scanAll [65, 32, 84, 67, 32, 66, 10, 10, 32, 84, 67, 32, 49, 65] = ([], 3, 5) := by kernel_rfl
set_option maxRecDepth 100000 in
set_option maxHeartbeats 4000000 in
theorem f13 : PureCall Tryd.prog 13 [] (bb true) := by
  have cl := f21 ([65] ++ List.replicate (0 + 120) 32) (by unfold B62; simp)
  rw [long] at cl
  have ca := f28 [65, 32, 84, 67, 32, 66, 10, 10, 32, 84, 67, 32, 49, 65] (by unfold B62; decide)
  rw [kall] at ca
  refine PureCall.run tab_ok mixed (by kernel_rfl) Tryd.func13 rfl rfl rfl ?_
  conv => whnf
  repeat (first | ((with_reducible first | apply ga | apply gb | apply gc | apply gd | apply ge | apply gf | apply gg | apply gh | apply gi | apply gj); conv => whnf) | (refine ⟨⟨rfl, rfl, nle rfl, nle rfl⟩, ?_⟩; conv => whnf) | fail)
  repeat (first | ((with_reducible first | apply ga | apply gb | apply gc | apply gd | apply ge | apply gf | apply gg | apply gh | apply gi | apply gj); conv => whnf) | (refine ⟨⟨rfl, rfl, nle rfl, nle rfl⟩, ?_⟩; conv => whnf) | (refine CallK.flat [] (k16 _ true (by unfold B62; decide) (by decide +kernel)) ⟨.same, trivial⟩ rfl ?_; conv => whnf) | (refine CallK.flat [] (k16 _ false (by unfold B62; decide) (by decide +kernel)) ⟨.same, trivial⟩ rfl ?_; conv => whnf) | (refine CallK.flat [] (f31 _ (by unfold B62; decide) (by decide +kernel)) ⟨.same, trivial⟩ rfl ?_; conv => whnf) | (refine CallK.flat [] (f14 _ (by unfold B62; decide)) ⟨.same, trivial⟩ rfl ?_; conv => whnf) | (refine CallK.flat [] (f19 _ (by unfold B62; decide)) ⟨.same, trivial⟩ rfl ?_; conv => whnf) | (refine CallK.flat [] (f32 _ _ _ (by unfold B62; decide) (by kernel_rfl)) ⟨.same, .same, .same, trivial⟩ rfl ?_; conv => whnf) | (refine CallK.flat [] (f21 _ (by unfold B62; decide)) ⟨.same, trivial⟩ rfl ?_; conv => whnf) | (refine CallK.flat [] (f23 ⟨[65], [], az⟩ ⟨by decide, by decide, by decide, by unfold inI64; decide⟩) ⟨agg5 .same .same .same .same .same, trivial⟩ rfl ?_; conv => whnf) | (refine CallK.flat [] (f23 ⟨[], [], ⟨1, [], 1⟩⟩ ⟨by decide, by decide, by decide, by unfold inI64; decide⟩) ⟨agg5 .same .same .same .same .same, trivial⟩ rfl ?_; conv => whnf) | (refine CallK.flat [] (f23 ⟨[], [84, 67], ⟨3, [], 0⟩⟩ ⟨by decide, by decide, by decide, by unfold inI64; decide⟩) ⟨agg5 .same .same .same .same .same, trivial⟩ rfl ?_; conv => whnf) | (refine CallK.drop [] ca ⟨.same, trivial⟩ ?_; conv => whnf) | (refine ⟨fun _ => ?_, fun h => absurd h (by decide +kernel)⟩; conv => whnf) | (refine ⟨fun h => absurd h (by decide +kernel), fun _ => ?_⟩; conv => whnf) | fail)
  refine ex_loop tab_ok mixed (fun k : Nat => k ≤ 120) (fun k => mkSt 256 [(1, bb true), (2, bb true), (12, bb true), (13, bb true), (14, .pv (linesP [])), (15, i64 3), (16, i64 5), (17, .ptr 17 0 5 0 0), (19, i64 0), (20, .ptr 20 0 5 0 0), (22, i64 0), (23, st [65]), (24, i64 0), (26, i64 2), (28, i64 2), (29, st ([65] ++ List.replicate k 32)), (30, i64 k)] [(17, lineO lz), (20, lineO lz)]) (fun k => 120 - k) 0 (Nat.zero_le _) (SubS.mk [] rfl ⟨⟨_, rfl, VLe.eq (by kernel_rfl)⟩, ⟨_, rfl, VLe.eq (by kernel_rfl)⟩, ⟨_, rfl, VLe.eq (by kernel_rfl)⟩, ⟨_, rfl, VLe.eq (by kernel_rfl)⟩, ⟨_, rfl, .same⟩, ⟨_, rfl, VLe.eq (by kernel_rfl)⟩, ⟨_, rfl, VLe.eq (by kernel_rfl)⟩, ⟨_, rfl, .ptr _ _ _ _ _ _ _ _ _ rfl rfl rfl rfl⟩, ⟨_, rfl, VLe.eq (by kernel_rfl)⟩, ⟨_, rfl, .ptr _ _ _ _ _ _ _ _ _ rfl rfl rfl rfl⟩, ⟨_, rfl, VLe.eq (by kernel_rfl)⟩, ⟨_, rfl, VLe.eq (by kernel_rfl)⟩, ⟨_, rfl, VLe.eq (by kernel_rfl)⟩, ⟨_, rfl, VLe.eq (by kernel_rfl)⟩, ⟨_, rfl, VLe.eq (by kernel_rfl)⟩, ⟨_, rfl, .same⟩, ⟨_, rfl, .same⟩, trivial⟩ ⟨.inl ⟨_, _, rfl, rfl, rfl, ole5 rfl rfl rfl rfl rfl rfl (VLe.eq (by kernel_rfl)) (VLe.eq (by kernel_rfl)) (VLe.eq (by kernel_rfl)) (VLe.eq (by kernel_rfl)) (VLe.eq (by kernel_rfl))⟩, .inl ⟨_, _, rfl, rfl, rfl, ole5 rfl rfl rfl rfl rfl rfl (VLe.eq (by kernel_rfl)) (VLe.eq (by kernel_rfl)) (VLe.eq (by kernel_rfl)) (VLe.eq (by kernel_rfl)) (VLe.eq (by kernel_rfl))⟩, trivial⟩) ?_
  intro k hk
  conv => whnf
  repeat (first | ((with_reducible first | apply ga | apply gb | apply gc | apply gd | apply ge | apply gf | apply gg | apply gh | apply gi | apply gj); conv => whnf) | (refine ⟨⟨rfl, rfl, nle rfl, nle rfl⟩, ?_⟩; conv => whnf) | fail)
  refine ⟨fun hc => ?_, fun hc => ?_⟩ <;> replace hc := nm hc <;> (try simp only [Int.toNat_zero] at hc) <;> (try simp only [Int.toNat_one] at hc)
  · conv => whnf
    repeat (first | ((with_reducible first | apply ga | apply gb | apply gc | apply gd | apply ge | apply gf | apply gg | apply gh | apply gi | apply gj); conv => whnf) | (refine ⟨⟨rfl, rfl, nle rfl, nle rfl⟩, ?_⟩; conv => whnf) | fail)
    refine ⟨⟨by simp only [List.length_append, List.length_cons, List.length_replicate, List.length_nil]; omega⟩, ?_⟩
    conv => whnf
    repeat (first | ((with_reducible first | apply ga | apply gb | apply gc | apply gd | apply ge | apply gf | apply gg | apply gh | apply gi | apply gj); conv => whnf) | (refine ⟨⟨rfl, rfl, nle rfl, nle rfl⟩, ?_⟩; conv => whnf) | fail)
    refine ⟨⟨by unfold inI64; omega⟩, ?_⟩
    conv => whnf
    repeat (first | ((with_reducible first | apply ga | apply gb | apply gc | apply gd | apply ge | apply gf | apply gg | apply gh | apply gi | apply gj); conv => whnf) | (refine ⟨⟨rfl, rfl, nle rfl, nle rfl⟩, ?_⟩; conv => whnf) | fail)
    refine ⟨k + 1, by omega, SubS.mk [] rfl ⟨⟨_, rfl, .same⟩, ⟨_, rfl, .same⟩, ⟨_, rfl, .same⟩, ⟨_, rfl, .same⟩, ⟨_, rfl, .same⟩, ⟨_, rfl, .same⟩, ⟨_, rfl, .same⟩, ⟨_, rfl, .ptr _ _ _ _ _ _ _ _ _ rfl rfl rfl rfl⟩, ⟨_, rfl, .same⟩, ⟨_, rfl, .ptr _ _ _ _ _ _ _ _ _ rfl rfl rfl rfl⟩, ⟨_, rfl, .same⟩, ⟨_, rfl, .same⟩, ⟨_, rfl, .same⟩, ⟨_, rfl, .same⟩, ⟨_, rfl, .same⟩, ⟨_, rfl, ?_⟩, ⟨_, rfl, .same⟩, trivial⟩ ⟨.inl ⟨_, _, rfl, rfl, rfl, ole5 rfl rfl rfl rfl rfl rfl .same .same .same .same .same⟩, .inl ⟨_, _, rfl, rfl, rfl, ole5 rfl rfl rfl rfl rfl rfl .same .same .same .same .same⟩, trivial⟩, by omega⟩
    rw [List.replicate_succ']; exact VLe.eq (congrArg PV.str (by rw [← List.append_assoc]))
  · obtain rfl : k = 120 := by omega
    conv => whnf
    repeat (first | ((with_reducible first | apply ga | apply gb | apply gc | apply gd | apply ge | apply gf | apply gg | apply gh | apply gi | apply gj); conv => whnf) | (refine ⟨⟨rfl, rfl, nle rfl, nle rfl⟩, ?_⟩; conv => whnf) | fail)
    refine CallK.flat [] cl ⟨.same, trivial⟩ rfl ?_
    conv => whnf
    repeat (first | ((with_reducible first | apply ga | apply gb | apply gc | apply gd | apply ge | apply gf | apply gg | apply gh | apply gi | apply gj); conv => whnf) | (refine ⟨⟨rfl, rfl, nle rfl, nle rfl⟩, ?_⟩; conv => whnf) | fail)
    repeat (first | ((with_reducible first | apply ga | apply gb | apply gc | apply gd | apply ge | apply gf | apply gg | apply gh | apply gi | apply gj); conv => whnf) | (refine ⟨⟨rfl, rfl, nle rfl, nle rfl⟩, ?_⟩; conv => whnf) | (refine CallK.flat [] f18 trivial rfl ?_; conv => whnf) | (refine ⟨fun _ => ?_, fun h => absurd h (by decide +kernel)⟩; conv => whnf) | (refine ⟨fun h => absurd h (by decide +kernel), fun _ => ?_⟩; conv => whnf) | fail)
    exact done_bool _ _ rfl rfl rfl
end Go.Proofs.YtdoeiccibhabcaaDoor
