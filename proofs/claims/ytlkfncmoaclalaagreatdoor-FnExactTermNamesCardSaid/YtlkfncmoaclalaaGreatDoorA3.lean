/- Part 3 of the lemmas that the claim rests on: an abstract machine over the model, what it is sound for, and the contracts of the functions that the law reaches. -/
import Derived.Test.YtlkfncmoaclalaaGreatDoorA2
import Derived.Sort.Grow
import Derived.Sort.EncStr
import Derived.Calls
import Derived.Shelf.Sort.Plain
import Derived.Shelf.Slices.In.SortNone
import Derived.Shelf.Slices.CompactS
import Derived.Test.YtlkfncmoaclalaaGreatDoorProg
set_option linter.unusedSimpArgs false
set_option linter.unusedVariables false
set_option maxHeartbeats 4000000
/- Literals: what impl asks of them is what the model asks -/
namespace Pf
open Go Go.Proofs
abbrev Dg (s : List UInt8) : List UInt8 := s.takeWhile dB
abbrev Rg (s : List UInt8) : List UInt8 := s.dropWhile dB
theorem dg_app (s : List UInt8) : Dg s ++ Rg s = s := List.takeWhile_append_dropWhile
theorem dg_all (s : List UInt8) : (Dg s).all dB = true := List.all_takeWhile
theorem rg_head (s : List UInt8) : Rg s = [] ∨ ∃ c t, Rg s = c :: t ∧ dB c = false := by
  cases h : Rg s with
  | nil => exact .inl rfl
  | cons c t =>
    refine .inr ⟨c, t, rfl, ?_⟩
    have := List.head_dropWhile_not dB (l := s) (by show Rg s ≠ []; rw [h]; simp)
    have e : (s.dropWhile dB) = c :: t := h
    simpa [e] using this
theorem cutL_app {a : List UInt8} {c : UInt8} (h : c ∉ a) (r : List UInt8) : cutL (a ++ r) c = a ++ cutL r c ∧ cutR (a ++ r) c = cutR r c := by
  induction a with
  | nil => exact ⟨rfl, rfl⟩
  | cons b a ih =>
    have hb : (b != c) = true := by
      simp only [bne_iff_ne]
      exact fun k => h (by rw [k]; exact List.mem_cons_self ..)
    obtain ⟨h1, h2⟩ := ih fun k => h (List.mem_cons_of_mem _ k)
    constructor
    · show cutL (b :: (a ++ r)) c = b :: (a ++ cutL r c)
      rw [← h1]; simp [cutL, hb]
    · show cutR (b :: (a ++ r)) c = cutR r c
      rw [← h2]; simp [cutR, hb]
theorem cutL_hd (c : UInt8) (t : List UInt8) : cutL (c :: t) c = [] ∧ cutR (c :: t) c = t := by simp [cutL, cutR]
theorem cutL_tl {b c : UInt8} (h : b ≠ c) (t : List UInt8) : cutL (b :: t) c = b :: cutL t c ∧ cutR (b :: t) c = cutR t c := by
  have hb : (b != c) = true := by simpa using h
  simp [cutL, cutR, hb]
theorem nodig {s : List UInt8} (h : s.all dB = true) {c : UInt8} (hc : dB c = false) : c ∉ s := fun k => by
  have := List.all_eq_true.1 h c k
  rw [hc] at this; cases this
/-- Behind 'e', as the model reads it. -/
def powE1 (t : List UInt8) : Prop := Dg (cutP t 45) ≠ [] ∧ (Dg (cutP t 45)).length ≤ 3 ∧ ¬ ((cutP t 45).getD 0 0 = 48 ∧ (1 < (Dg (cutP t 45)).length ∨ t.head? = some 45)) ∧
  ¬ ((Dg (cutP t 45)).length = 3 ∧ ¬ (Op.bytesLess (Dg (cutP t 45)) [52, 48, 48] = true ∨ Dg (cutP t 45) = [52, 48, 48])) ∧ Rg (cutP t 45) = []
def powE (r : List UInt8) : Prop := (r.head? = some 101 → powE1 (r.drop 1)) ∧ (r.head? ≠ some 101 → r = [])
def fracE (r : List UInt8) : Prop := (r.head? = some 46 → Dg (r.drop 1) ≠ [] ∧ powE (Rg (r.drop 1))) ∧ (r.head? ≠ some 46 → powE r)
def numE (s : List UInt8) : Prop := wd (Dg s) ∧ fracE (Rg s)
theorem dg_self {s : List UInt8} : Rg s = [] ↔ s.all dB = true := by
  constructor
  · intro h
    have := dg_all s
    rwa [show Dg s = s by have := dg_app s; rw [h, List.append_nil] at this; exact this] at this
  · intro h
    rcases rg_head s with h1 | ⟨c, t, h1, h2⟩
    · exact h1
    · have : c ∈ s := by rw [← dg_app s, h1]; simp
      exact absurd this (nodig h h2)
theorem dg_id {s : List UInt8} (h : s.all dB = true) : Dg s = s := by
  have := dg_app s
  rw [dg_self.2 h, List.append_nil] at this
  exact this
theorem step_ok {acc : Nat} {c : UInt8} (hc : dB c = true) (hacc : acc ≤ 100) (r : List UInt8) : Lib.parseUint10 acc (c :: r) = Lib.parseUint10 (acc * 10 + (c.toNat - 48)) r := by
  have h := dB_iff.1 hc
  rw [Lib.parseUint10, if_pos (by omega), if_neg (by omega), if_neg (by omega)]
theorem atoi_of {c : UInt8} {r : List UInt8} {n : Nat} (hc : dB c = true) (h : Lib.parseUint10 0 (c :: r) = .ok n) (hn : n ≤ 1000) : Lib.atoiAll (c :: r) = .ok (n : Int) := by
  have h0 := dB_iff.1 hc
  have e1 : ¬ (c.toNat = 43 ∨ c.toNat = 45) := by omega
  have e2 : ¬ c.toNat = 45 := by omega
  have e3 : ¬ (9223372036854775808 ≤ n) := by omega
  have e4 : Lib.parseMag (if c.toNat = 43 ∨ c.toNat = 45 then r else c :: r) = .ok n := by rw [if_neg e1, Lib.parseMag, if_neg (List.cons_ne_nil _ _), h]
  simp only [Lib.atoiAll, e4]
  simp [e2, e3]
theorem val1 {a : UInt8} (ha : dB a = true) : Lib.atoiAll [a] = .ok (((a.toNat - 48 : Nat)) : Int) := by
  have h := dB_iff.1 ha
  refine atoi_of ha ?_ (by omega)
  rw [step_ok ha (by omega), Lib.parseUint10]
  congr 1; omega
theorem val2 {a b : UInt8} (ha : dB a = true) (hb : dB b = true) : Lib.atoiAll [a, b] = .ok ((((a.toNat - 48) * 10 + (b.toNat - 48) : Nat)) : Int) := by
  have h := dB_iff.1 ha
  have h2 := dB_iff.1 hb
  refine atoi_of ha ?_ (by omega)
  rw [step_ok ha (by omega), step_ok hb (by omega), Lib.parseUint10]
  congr 1; omega
theorem val3 {a b c : UInt8} (ha : dB a = true) (hb : dB b = true) (hc : dB c = true) : Lib.atoiAll [a, b, c] = .ok (((((a.toNat - 48) * 10 + (b.toNat - 48)) * 10 + (c.toNat - 48) : Nat)) : Int) := by
  have h := dB_iff.1 ha
  have h2 := dB_iff.1 hb
  have h3 := dB_iff.1 hc
  refine atoi_of ha ?_ (by omega)
  rw [step_ok ha (by omega), step_ok hb (by omega), step_ok hc (by omega), Lib.parseUint10]
  congr 1; omega
theorem u8_lt {a b : UInt8} : (a < b) = (a.toNat < b.toNat) := propext UInt8.lt_iff_toNat_lt
theorem u8_val {a : UInt8} {n : Nat} (hn : n < 256) : a = UInt8.ofNat n ↔ a.toNat = n := by
  rw [← UInt8.toNat_inj, UInt8.toNat_ofNat']
  omega
theorem is48 {a : UInt8} : a = 48 ↔ a.toNat = 48 := u8_val (n := 48) (by omega)
theorem is52 {a : UInt8} : a = 52 ↔ a.toNat = 52 := u8_val (n := 52) (by omega)
theorem pow_ok (t : List UInt8) : powE1 t ↔ powP t := by
  unfold powE1 powP
  generalize cutP t 45 = u
  by_cases ha : u.all dB = true
  · rw [dg_id ha, dg_self.2 ha]
    unfold wd
    match u, ha with
    | [], _ => simp
    | [a], ha =>
      have ha : dB a = true := by simpa using ha
      have h := dB_iff.1 ha
      rw [val1 ha]
      have e1 : [a] = [(48 : UInt8)] ↔ a = 48 := by simp
      simp only [e1, List.getD_cons_zero, is48]
      constructor
      · rintro ⟨-, -, h3, -, -⟩
        refine ⟨⟨⟨by simp, by simpa using ha⟩, Decidable.em _⟩, by simp, _, rfl, by omega, fun k => h3 ⟨by omega, .inr k.1⟩⟩
      · rintro ⟨-, -, v, hv, h1, h2⟩
        cases hv
        refine ⟨by simp, by simp, fun k => ?_, fun k => by have := k.1; simp at this, trivial⟩
        rcases k.2 with k2 | k2
        · simp at k2
        · exact h2 ⟨k2, by omega⟩
    | [a, b], ha =>
      obtain ⟨ha, hb⟩ : dB a = true ∧ dB b = true := by simpa using ha
      have h := dB_iff.1 ha
      have h' := dB_iff.1 hb
      rw [val2 ha hb]
      have e1 : ¬ [a, b] = [(48 : UInt8)] := by simp
      simp only [e1, List.getD_cons_zero, is48, false_or]
      constructor
      · rintro ⟨-, -, h3, -, -⟩
        have h4 : ¬ a.toNat = 48 := fun k => h3 ⟨k, .inl (by simp)⟩
        refine ⟨⟨⟨by simp, by simp [ha, hb]⟩, h4⟩, by simp, _, rfl, by omega, fun k => by have := k.2; omega⟩
      · rintro ⟨⟨-, h4⟩, -, v, hv, h1, h2⟩
        exact ⟨by simp, by simp, fun k => h4 k.1, fun k => by have := k.1; simp at this, trivial⟩
    | [a, b, c], ha =>
      obtain ⟨ha, hb, hc⟩ : dB a = true ∧ dB b = true ∧ dB c = true := by simpa using ha
      have h := dB_iff.1 ha
      have h' := dB_iff.1 hb
      have h'' := dB_iff.1 hc
      rw [val3 ha hb hc]
      have e1 : ¬ [a, b, c] = [(48 : UInt8)] := by simp
      have e2 : (Op.bytesLess [a, b, c] [52, 48, 48] = true ∨ [a, b, c] = [52, 48, 48]) ↔ ((a.toNat - 48) * 10 + (b.toNat - 48)) * 10 + (c.toNat - 48) ≤ 400 := by
        simp only [Op.bytesLess, Bool.or_eq_true, Bool.and_eq_true, decide_eq_true_eq, beq_iff_eq, List.cons.injEq, and_true, is48, is52, u8_lt, Bool.false_eq_true]
        have q1 : (52 : UInt8).toNat = 52 := rfl
        have q2 : (48 : UInt8).toNat = 48 := rfl
        rw [q1, q2]
        omega
      simp only [e1, e2, List.getD_cons_zero, is48, false_or]
      constructor
      · rintro ⟨-, -, h3, h5, -⟩
        have h4 : ¬ a.toNat = 48 := fun k => h3 ⟨k, .inl (by simp)⟩
        have h6 := Classical.byContradiction fun k => h5 ⟨by simp, k⟩
        refine ⟨⟨⟨by simp, by simp [ha, hb, hc]⟩, h4⟩, by simp, _, rfl, by omega, fun k => by have := k.2; omega⟩
      · rintro ⟨⟨-, h4⟩, -, v, hv, h1, h2⟩
        cases hv
        exact ⟨by simp, by simp, fun k => h4 k.1, fun k => k.2 (by omega), trivial⟩
    | a :: b :: c :: d :: l, _ =>
      constructor
      · intro h; have := h.2.1; simp at this
      · intro h; have := h.2.1; simp at this
  · constructor
    · intro h; exact absurd (dg_self.1 h.2.2.2.2) ha
    · intro h; exact absurd h.1.1.2 ha
theorem num_ok (s : List UInt8) : numE s ↔ litP s := by
  have hs := dg_app s
  have ha := dg_all s
  unfold numE litP
  generalize hD : Dg s = a at *
  have hr := rg_head s
  generalize hR : Rg s = r at *
  have n101 : (101 : UInt8) ∉ a := nodig ha (by decide)
  have n46 : (46 : UInt8) ∉ a := nodig ha (by decide)
  subst hs
  rw [(cutL_app n101 r).1, (cutL_app n101 r).2]
  have e101 : (101 : UInt8) ∈ a ++ r ↔ (101 : UInt8) ∈ r := by simp [n101]
  rw [e101, (cutL_app n46 _).1, (cutL_app n46 _).2]
  have e46 : (46 : UInt8) ∈ a ++ cutL r 101 ↔ (46 : UInt8) ∈ cutL r 101 := by simp [n46]
  rw [e46]
  clear e46 e101 hD hR
  have bad : ∀ {c : UInt8} {l : List UInt8}, dB c = false → ¬ wd (a ++ c :: l) := fun hc k => by
    have := k.1.2
    simp [hc] at this
  rcases hr with rfl | ⟨c, t, rfl, hc⟩
  · simp [fracE, powE, cutL]
  · by_cases h46 : c = 46
    · subst h46
      rw [(cutL_tl (by decide) t).1, (cutL_tl (by decide) t).2, (cutL_hd 46 _).1, (cutL_hd 46 _).2, List.append_nil]
      have hs := dg_app t
      have hb := dg_all t
      have hq := rg_head t
      have e : fracE (46 :: t) ↔ Dg t ≠ [] ∧ powE (Rg t) := by simp [fracE]
      rw [e]
      generalize Dg t = b at *
      generalize Rg t = q at *
      subst hs
      have m101 : (101 : UInt8) ∉ b := nodig hb (by decide)
      rw [(cutL_app m101 q).1, (cutL_app m101 q).2]
      rcases hq with rfl | ⟨d, u, rfl, hd⟩
      · simp [powE, cutL, hb, m101]
      · by_cases h101 : d = 101
        · subst h101
          rw [(cutL_hd 101 u).1, (cutL_hd 101 u).2, List.append_nil]
          have := pow_ok u
          simp [powE, hb, this]
        · rw [(cutL_tl h101 u).1, (cutL_tl h101 u).2]
          constructor
          · intro k
            have := k.2.2.2 (by simp [h101])
            cases this
          · intro k
            have := (k.2.1 (by simp)).2
            simp [hd] at this
    · by_cases h101 : c = 101
      · subst h101
        rw [(cutL_hd 101 t).1, (cutL_hd 101 t).2]
        have := pow_ok t
        simp [fracE, powE, this, cutL]
      · rw [(cutL_tl h101 t).1, (cutL_tl h46 _).1]
        constructor
        · intro k
          have := (k.2.2 (by simp [h46])).2 (by simp [h101])
          cases this
        · intro k
          exact absurd k.1 (bad hc)
theorem run_dg (s : List UInt8) (f : Nat) : run s f = (Dg (s.drop f)).length := rfl
theorem drop_rg (s : List UInt8) (f : Nat) : s.drop (f + run s f) = Rg (s.drop f) := by
  rw [← List.drop_drop, run_dg]
  generalize s.drop f = l
  conv => lhs; rw [← dg_app l]
  rw [List.drop_left']
  rw [dg_app]
theorem head_at {s : List UInt8} {f : Nat} (h : f < s.length) (c : UInt8) : (s.drop f).head? = some c ↔ s.getD f 0 = c := by
  rw [List.head?_drop, List.getD_eq_getElem?_getD]
  simp [h]
end Pf
/- Literals: the model's side -/
namespace Pf
open Go Go.Proofs
/-- Behind 'e' and its sign: the place a, the sign m. -/
def powA (s : List UInt8) (a : Nat) (m : Prop) : Prop := run s a ≠ 0 ∧ run s a ≤ 3 ∧ ¬ (s.getD a 0 = 48 ∧ (1 < run s a ∨ m)) ∧
  ¬ (run s a = 3 ∧ ¬ (Op.bytesLess ((s.take (a + run s a)).drop a) [52, 48, 48] = true ∨ (s.take (a + run s a)).drop a = [52, 48, 48])) ∧ a + run s a = s.length
theorem run_le (s : List UInt8) (a : Nat) (h : a ≤ s.length) : a + run s a ≤ s.length := by
  have := (List.takeWhile_prefix (l := s.drop a) dB).length_le
  rw [List.length_drop] at this
  have e := run_dg s a
  have : (Dg (s.drop a)).length ≤ s.length - a := this
  omega
theorem powA_ok {s t : List UInt8} {a : Nat} {m : Prop} (ha : a ≤ s.length) (hu : s.drop a = cutP t 45) (hm : m ↔ t.head? = some 45) : powE1 t ↔ powA s a m := by
  have h1 := run_dg s a
  have h2 := drop_rg s a
  have h3 := run_le s a ha
  unfold powE1 powA
  rw [← hu, ← hm]
  have e1 : (s.take (a + run s a)).drop a = Dg (s.drop a) := by
    rw [List.drop_take, Nat.add_sub_cancel_left]
    conv => lhs; rw [← dg_app (s.drop a)]
    rw [h1, List.take_left']
    rfl
  have e2 : (s.drop a).getD 0 0 = s.getD a 0 := by simp [List.getD_eq_getElem?_getD]
  have e3 : Rg (s.drop a) = [] ↔ a + run s a = s.length := by
    rw [← h2, List.drop_eq_nil_iff]
    omega
  have e4 : Dg (s.drop a) ≠ [] ↔ run s a ≠ 0 := by rw [h1, ne_eq, ne_eq, List.length_eq_zero_iff]
  rw [e1, e2, e3, e4, h1]
theorem drop_cons {s : List UInt8} {a : Nat} (h : a < s.length) : s.drop a = s.getD a 0 :: s.drop (a + 1) := by
  rw [List.drop_eq_getElem_cons h, List.getD_eq_getElem?_getD]
  simp [h]
theorem powE_yes {s : List UInt8} {a : Nat} (h : a < s.length) (e : s.getD a 0 = 101) : powE (s.drop a) ↔ powE1 (s.drop (a + 1)) := by
  rw [drop_cons h, e]; simp [powE]
theorem powE_no {s : List UInt8} {a : Nat} (h : a < s.length) (e : ¬ s.getD a 0 = 101) : ¬ powE (s.drop a) := by
  rw [drop_cons h]
  intro k
  have := k.2 (by simpa using e)
  cases this
theorem powE_nil {s : List UInt8} {a : Nat} (h : s.length ≤ a) : powE (s.drop a) := by
  rw [List.drop_eq_nil_iff.2 h]; simp [powE]
theorem fracE_yes {s : List UInt8} {n : Nat} (h : n < s.length) (e : s.getD n 0 = 46) : fracE (s.drop n) ↔ run s (n + 1) ≠ 0 ∧ powE (s.drop (n + 1 + run s (n + 1))) := by
  have h1 := run_dg s (n + 1)
  have h2 := drop_rg s (n + 1)
  rw [drop_cons h, e]
  simp only [fracE, List.head?_cons, List.drop_succ_cons, List.drop_zero, forall_const, ne_eq, not_true_eq_false, false_implies, and_true]
  rw [h2, h1, List.length_eq_zero_iff]
theorem fracE_no {s : List UInt8} {n : Nat} (e : ¬ s.getD n 0 = 46) : fracE (s.drop n) ↔ powE (s.drop n) := by
  have : (s.drop n).head? ≠ some 46 := by
    by_cases h : n < s.length
    · rw [ne_eq, head_at h]; exact e
    · rw [List.drop_eq_nil_iff.2 (by omega)]; simp
  exact ⟨fun k => k.2 this, fun k => ⟨fun e => absurd e this, fun _ => k⟩⟩
theorem cutP_yes {s : List UInt8} {a : Nat} (h : a < s.length) (e : s.getD a 0 = 45) : s.drop (a + 1) = cutP (s.drop a) 45 := by
  unfold cutP
  rw [if_pos ((head_at h 45).2 e), List.drop_drop]
theorem cutP_no {s : List UInt8} {a : Nat} (h : a < s.length) (e : ¬ s.getD a 0 = 45) : s.drop a = cutP (s.drop a) 45 := by
  unfold cutP
  rw [if_neg fun k => e ((head_at h 45).1 k)]
theorem specLangNumOk_ok (s : List UInt8) (hl : s.length ≤ 281474976710656) : AFunP Tryz.prog 103 [.str s] (· = .pr (litP s ∧ s.length ≤ 60)) := by
  rw [← num_ok s]
  have k0 := l11Run_ok s 0 (by omega) (by omega)
  have r0 : s.drop (run s 0) = Rg s := by have := drop_rg s 0; rwa [Nat.zero_add] at this
  have t0 := run_le s 0 (by omega)
  rw [Nat.zero_add] at t0
  have w0 : run s 0 ≠ 0 → (wd (Dg s) ↔ ¬ (1 < run s 0 ∧ s.getD 0 0 = 48)) := by
    intro h
    have d0 : run s 0 = (Dg s).length := rfl
    have e0 : s.getD 0 0 = (Dg s).getD 0 0 := by
      conv => lhs; rw [← dg_app s]
      simp only [List.getD_eq_getElem?_getD]
      rw [List.getElem?_append_left (by omega)]
    rw [d0] at h ⊢
    rw [e0]
    have ha := dg_all s
    unfold wd
    clear e0
    revert h
    match Dg s, ha with
    | [], _ => intro h; exact absurd rfl h
    | [a], ha => intro h; simp at ha; simp [ha]; exact Decidable.em _
    | a :: b :: l, ha => intro h; simp at ha; simp [ha]; exact fun _ => ha.2.2
  have w1 : wd (Dg s) → run s 0 ≠ 0 := fun k => by
    have d0 : run s 0 = (Dg s).length := rfl
    rw [d0, ne_eq, List.length_eq_zero_iff]
    exact k.1.1
  refine afun_of Tryz.func103 Tryz.call103 rfl Tryz.ntmps103 rfl ?_
  have W : Walk Tryz.prog TT 103 _ := Walk.of TT_ok Tryz.func103 Tryz.results103
  refine ce W 0 rfl rfl (k0) rfl ?_
  generalize run s 0 = n at *
  refine sp W 0 rfl rfl rfl (fun h1 => ?_) (fun h1 => ?_)
  · refine rp W 0 rfl rfl rfl (.no (fun k => by have := k.2; omega))
  refine sp W 0 rfl rfl rfl (fun h2 => ?_) (fun h2 => ?_)
  · refine rp W 0 rfl rfl rfl (.no (fun k => w1 k.1.1 (by omega)))
  refine sp W 0 rfl rfl rfl (fun h3 => ?_) (fun h3 => ?_)
  · refine sp W 0 rfl rfl rfl (fun h4 => ?_) (fun h4 => ?_)
    · have h4 := (u8_eq (c := 48)).1 h4
      refine rp W 0 rfl rfl rfl (.no (fun q => (w0 (by omega)).1 q.1.1 ⟨by omega, h4⟩))
    · have hw := (w0 (by omega)).2 fun k => h4 ((u8_eq (c := 48)).2 k.2)
      have hq0 : numE s ↔ fracE (Rg s) := ⟨fun e => e.2, fun e => ⟨hw, e⟩⟩
      refine sp W 0 rfl rfl rfl (fun p1 => ?_) (fun p1 => ?_)
      · refine sp W 0 rfl rfl rfl (fun p2 => ?_) (fun p2 => ?_)
        · rw [show (n : Int).toNat = n by omega] at p2
          have p2 := (u8_eq (c := 46)).1 p2
          have kk : AFunP Tryz.prog 122 [.str s, .int .i64 ((n : Int) + 1)] (· = .int .i64 (run s (n + 1) : Nat)) := l11Run_ok s (n + 1) (by omega) (by omega)
          have tk := run_le s (n + 1) (by omega)
          have hf : numE s ↔ run s (n + 1) ≠ 0 ∧ powE (s.drop (n + 1 + run s (n + 1))) := by
            refine hq0.trans ?_
            rw [← r0, fracE_yes (by omega) p2]
          refine ce W 0 rfl rfl (kk) rfl ?_
          generalize run s (n + 1) = j at *
          refine sp W 0 rfl rfl rfl (fun p5 => ?_) (fun p5 => ?_)
          · refine rp W 0 rfl rfl rfl (.no (fun q => (hf.1 q.1).1 (by omega)))
          have hq : numE s ↔ powE (s.drop (n + 1 + j)) := ⟨fun e => (hf.1 e).2, fun e => hf.2 ⟨by omega, e⟩⟩
          refine sp W 0 rfl rfl rfl (fun p3 => ?_) (fun p3 => ?_)
          · refine sp W 0 rfl rfl rfl (fun p4 => ?_) (fun p4 => ?_)
            · rw [show ((n : Int) + 1 + (j : Int)).toNat = n + 1 + j by omega] at p4
              have hq2 : numE s ↔ powE1 (s.drop (n + 1 + j + 1)) := hq.trans (powE_yes (by omega) ((u8_eq (c := 101)).1 p4))
              refine sp W 0 rfl rfl rfl (fun m1 => ?_) (fun m1 => ?_)
              · refine sp W 0 rfl rfl rfl (fun m2 => ?_) (fun m2 => ?_)
                · rw [show ((n : Int) + 1 + (j : Int) + 1).toNat = n + 1 + j + 1 by omega] at m2
                  have hu : s.drop (n + 1 + j + 1 + 1) = cutP (s.drop (n + 1 + j + 1)) 45 := cutP_yes (by omega) ((u8_eq (c := 45)).1 m2)
                  have hm : True ↔ (s.drop (n + 1 + j + 1)).head? = some 45 := by rw [head_at (by omega)]; exact ⟨fun _ => (u8_eq (c := 45)).1 m2, fun _ => trivial⟩
                  rw [← show ((n : Int) + 1 + (j : Int) + 1).toNat = n + 1 + j + 1 by omega] at m2
                  have kr : AFunP Tryz.prog 122 [.str s, .int .i64 ((n : Int) + 1 + (j : Int) + 1 + 1)] (· = .int .i64 (run s (n + 1 + j + 1 + 1) : Nat)) := by
                    have := l11Run_ok s (n + 1 + j + 1 + 1) (by omega) (by omega)
                    rwa [show ((n + 1 + j + 1 + 1 : Nat) : Int) = (n : Int) + 1 + (j : Int) + 1 + 1 by omega] at this
                  have tr := run_le s (n + 1 + j + 1 + 1) (by omega)
                  have hP := hq2.trans (powA_ok (a := n + 1 + j + 1 + 1) (m := True) (by omega) hu hm)
                  unfold powA at hP
                  refine ce W 0 rfl rfl (kr) rfl ?_
                  generalize run s (n + 1 + j + 1 + 1) = k at *
                  refine sp W 0 rfl rfl rfl (fun c1 => ?_) (fun c1 => ?_)
                  · refine rp W 0 rfl rfl rfl (.no (fun q => (hP.1 q.1).1 (by omega)))
                  refine sp W 0 rfl rfl rfl (fun c2 => ?_) (fun c2 => ?_)
                  · refine rp W 0 rfl rfl rfl (.no (fun q => by have := (hP.1 q.1).2.1; omega))
                  refine sp W 0 rfl rfl rfl (fun c3 => ?_) (fun c3 => ?_)
                  · have c3 : s.getD (n + 1 + j + 1 + 1) 0 = 48 := by rw [show ((n : Int) + 1 + (j : Int) + 1 + 1).toNat = n + 1 + j + 1 + 1 by omega] at c3; exact (u8_eq (c := 48)).1 c3
                    refine sp W 0 rfl rfl rfl (fun c4 => ?_) (fun c4 => ?_)
                    · refine rp W 0 rfl rfl rfl (.no (fun q => (hP.1 q.1).2.2.1 ⟨c3, .inl (by omega)⟩))
                    · refine sp W 0 rfl rfl rfl (fun c5 => ?_) (fun c5 => ?_)
                      · refine rp W 0 rfl rfl rfl (.no (fun q => (hP.1 q.1).2.2.1 ⟨c3, .inr trivial⟩))
                      · exact absurd m2 c5
                  · have c3 : ¬ s.getD (n + 1 + j + 1 + 1) 0 = 48 := fun e => c3 (by rw [show ((n : Int) + 1 + (j : Int) + 1 + 1).toNat = n + 1 + j + 1 + 1 by omega]; exact (u8_eq (c := 48)).2 e)
                    have f3 : ¬ (s.getD (n + 1 + j + 1 + 1) 0 = 48 ∧ (1 < k ∨ True)) := fun q => c3 q.1
                    refine sp W 0 rfl rfl rfl (fun c6 => ?_) (fun c6 => ?_)
                    · refine sp W 0 rfl rfl rfl (fun c7 => ?_) (fun c7 => ?_)
                      · rw [show ((n : Int) + 1 + (j : Int) + 1 + 1).toNat = n + 1 + j + 1 + 1 by omega, show (((n : Int) + 1 + (j : Int) + 1 + 1) + (k : Int)).toNat = n + 1 + j + 1 + 1 + k by omega] at c7
                        refine rp W 0 rfl rfl rfl (.no (fun q => (hP.1 q.1).2.2.2.1 ⟨by omega, c7⟩))
                      · rw [show ((n : Int) + 1 + (j : Int) + 1 + 1).toNat = n + 1 + j + 1 + 1 by omega, show (((n : Int) + 1 + (j : Int) + 1 + 1) + (k : Int)).toNat = n + 1 + j + 1 + 1 + k by omega] at c7
                        have f4 : ¬ (k = 3 ∧ ¬ (Op.bytesLess ((s.take (n + 1 + j + 1 + 1 + k)).drop (n + 1 + j + 1 + 1)) [52, 48, 48] = true ∨ (s.take (n + 1 + j + 1 + 1 + k)).drop (n + 1 + j + 1 + 1) = [52, 48, 48])) := fun q => c7 q.2
                        refine rp W 0 rfl rfl rfl (.pr ⟨fun e => ⟨hP.2 ⟨by omega, by omega, f3, f4, by omega⟩, by omega⟩, fun q => by have := (hP.1 q.1).2.2.2.2; omega⟩)
                    · have f4 : ¬ (k = 3 ∧ ¬ (Op.bytesLess ((s.take (n + 1 + j + 1 + 1 + k)).drop (n + 1 + j + 1 + 1)) [52, 48, 48] = true ∨ (s.take (n + 1 + j + 1 + 1 + k)).drop (n + 1 + j + 1 + 1) = [52, 48, 48])) := fun q => by have := q.1; omega
                      refine rp W 0 rfl rfl rfl (.pr ⟨fun e => ⟨hP.2 ⟨by omega, by omega, f3, f4, by omega⟩, by omega⟩, fun q => by have := (hP.1 q.1).2.2.2.2; omega⟩)
                · rw [show ((n : Int) + 1 + (j : Int) + 1).toNat = n + 1 + j + 1 by omega] at m2
                  have hu : s.drop (n + 1 + j + 1) = cutP (s.drop (n + 1 + j + 1)) 45 := cutP_no (by omega) fun e => m2 ((u8_eq (c := 45)).2 e)
                  have hm : False ↔ (s.drop (n + 1 + j + 1)).head? = some 45 := by rw [head_at (by omega)]; exact ⟨False.elim, fun e => m2 ((u8_eq (c := 45)).2 e)⟩
                  rw [← show ((n : Int) + 1 + (j : Int) + 1).toNat = n + 1 + j + 1 by omega] at m2
                  have kr : AFunP Tryz.prog 122 [.str s, .int .i64 ((n : Int) + 1 + (j : Int) + 1)] (· = .int .i64 (run s (n + 1 + j + 1) : Nat)) := by
                    have := l11Run_ok s (n + 1 + j + 1) (by omega) (by omega)
                    rwa [show ((n + 1 + j + 1 : Nat) : Int) = (n : Int) + 1 + (j : Int) + 1 by omega] at this
                  have tr := run_le s (n + 1 + j + 1) (by omega)
                  have hP := hq2.trans (powA_ok (a := n + 1 + j + 1) (m := False) (by omega) hu hm)
                  unfold powA at hP
                  refine ce W 0 rfl rfl (kr) rfl ?_
                  generalize run s (n + 1 + j + 1) = k at *
                  refine sp W 0 rfl rfl rfl (fun c1 => ?_) (fun c1 => ?_)
                  · refine rp W 0 rfl rfl rfl (.no (fun q => (hP.1 q.1).1 (by omega)))
                  refine sp W 0 rfl rfl rfl (fun c2 => ?_) (fun c2 => ?_)
                  · refine rp W 0 rfl rfl rfl (.no (fun q => by have := (hP.1 q.1).2.1; omega))
                  refine sp W 0 rfl rfl rfl (fun c3 => ?_) (fun c3 => ?_)
                  · have c3 : s.getD (n + 1 + j + 1) 0 = 48 := by rw [show ((n : Int) + 1 + (j : Int) + 1).toNat = n + 1 + j + 1 by omega] at c3; exact (u8_eq (c := 48)).1 c3
                    refine sp W 0 rfl rfl rfl (fun c4 => ?_) (fun c4 => ?_)
                    · refine rp W 0 rfl rfl rfl (.no (fun q => (hP.1 q.1).2.2.1 ⟨c3, .inl (by omega)⟩))
                    · refine sp W 0 rfl rfl rfl (fun c5 => ?_) (fun c5 => ?_)
                      · exact absurd c5 m2
                      · have f3 : ¬ (s.getD (n + 1 + j + 1) 0 = 48 ∧ (1 < k ∨ False)) := fun q => q.2.elim (fun q => by omega) id
                        refine sp W 0 rfl rfl rfl (fun c6 => ?_) (fun c6 => ?_)
                        · refine sp W 0 rfl rfl rfl (fun c7 => ?_) (fun c7 => ?_)
                          · rw [show ((n : Int) + 1 + (j : Int) + 1).toNat = n + 1 + j + 1 by omega, show (((n : Int) + 1 + (j : Int) + 1) + (k : Int)).toNat = n + 1 + j + 1 + k by omega] at c7
                            refine rp W 0 rfl rfl rfl (.no (fun q => (hP.1 q.1).2.2.2.1 ⟨by omega, c7⟩))
                          · rw [show ((n : Int) + 1 + (j : Int) + 1).toNat = n + 1 + j + 1 by omega, show (((n : Int) + 1 + (j : Int) + 1) + (k : Int)).toNat = n + 1 + j + 1 + k by omega] at c7
                            have f4 : ¬ (k = 3 ∧ ¬ (Op.bytesLess ((s.take (n + 1 + j + 1 + k)).drop (n + 1 + j + 1)) [52, 48, 48] = true ∨ (s.take (n + 1 + j + 1 + k)).drop (n + 1 + j + 1) = [52, 48, 48])) := fun q => c7 q.2
                            refine rp W 0 rfl rfl rfl (.pr ⟨fun e => ⟨hP.2 ⟨by omega, by omega, f3, f4, by omega⟩, by omega⟩, fun q => by have := (hP.1 q.1).2.2.2.2; omega⟩)
                        · have f4 : ¬ (k = 3 ∧ ¬ (Op.bytesLess ((s.take (n + 1 + j + 1 + k)).drop (n + 1 + j + 1)) [52, 48, 48] = true ∨ (s.take (n + 1 + j + 1 + k)).drop (n + 1 + j + 1) = [52, 48, 48])) := fun q => by have := q.1; omega
                          refine rp W 0 rfl rfl rfl (.pr ⟨fun e => ⟨hP.2 ⟨by omega, by omega, f3, f4, by omega⟩, by omega⟩, fun q => by have := (hP.1 q.1).2.2.2.2; omega⟩)
                  · have c3 : ¬ s.getD (n + 1 + j + 1) 0 = 48 := fun e => c3 (by rw [show ((n : Int) + 1 + (j : Int) + 1).toNat = n + 1 + j + 1 by omega]; exact (u8_eq (c := 48)).2 e)
                    have f3 : ¬ (s.getD (n + 1 + j + 1) 0 = 48 ∧ (1 < k ∨ False)) := fun q => c3 q.1
                    refine sp W 0 rfl rfl rfl (fun c6 => ?_) (fun c6 => ?_)
                    · refine sp W 0 rfl rfl rfl (fun c7 => ?_) (fun c7 => ?_)
                      · rw [show ((n : Int) + 1 + (j : Int) + 1).toNat = n + 1 + j + 1 by omega, show (((n : Int) + 1 + (j : Int) + 1) + (k : Int)).toNat = n + 1 + j + 1 + k by omega] at c7
                        refine rp W 0 rfl rfl rfl (.no (fun q => (hP.1 q.1).2.2.2.1 ⟨by omega, c7⟩))
                      · rw [show ((n : Int) + 1 + (j : Int) + 1).toNat = n + 1 + j + 1 by omega, show (((n : Int) + 1 + (j : Int) + 1) + (k : Int)).toNat = n + 1 + j + 1 + k by omega] at c7
                        have f4 : ¬ (k = 3 ∧ ¬ (Op.bytesLess ((s.take (n + 1 + j + 1 + k)).drop (n + 1 + j + 1)) [52, 48, 48] = true ∨ (s.take (n + 1 + j + 1 + k)).drop (n + 1 + j + 1) = [52, 48, 48])) := fun q => c7 q.2
                        refine rp W 0 rfl rfl rfl (.pr ⟨fun e => ⟨hP.2 ⟨by omega, by omega, f3, f4, by omega⟩, by omega⟩, fun q => by have := (hP.1 q.1).2.2.2.2; omega⟩)
                    · have f4 : ¬ (k = 3 ∧ ¬ (Op.bytesLess ((s.take (n + 1 + j + 1 + k)).drop (n + 1 + j + 1)) [52, 48, 48] = true ∨ (s.take (n + 1 + j + 1 + k)).drop (n + 1 + j + 1) = [52, 48, 48])) := fun q => by have := q.1; omega
                      refine rp W 0 rfl rfl rfl (.pr ⟨fun e => ⟨hP.2 ⟨by omega, by omega, f3, f4, by omega⟩, by omega⟩, fun q => by have := (hP.1 q.1).2.2.2.2; omega⟩)
              · have e0 : s.drop (n + 1 + j + 1) = [] := List.drop_eq_nil_iff.2 (by omega)
                have hu : s.drop (n + 1 + j + 1) = cutP (s.drop (n + 1 + j + 1)) 45 := by rw [e0]; rfl
                have hm : False ↔ (s.drop (n + 1 + j + 1)).head? = some 45 := by rw [e0]; simp
                have kr : AFunP Tryz.prog 122 [.str s, .int .i64 ((n : Int) + 1 + (j : Int) + 1)] (· = .int .i64 (run s (n + 1 + j + 1) : Nat)) := by
                  have := l11Run_ok s (n + 1 + j + 1) (by omega) (by omega)
                  rwa [show ((n + 1 + j + 1 : Nat) : Int) = (n : Int) + 1 + (j : Int) + 1 by omega] at this
                have tr := run_le s (n + 1 + j + 1) (by omega)
                have hP := hq2.trans (powA_ok (a := n + 1 + j + 1) (m := False) (by omega) hu hm)
                unfold powA at hP
                refine ce W 0 rfl rfl (kr) rfl ?_
                generalize run s (n + 1 + j + 1) = k at *
                refine sp W 0 rfl rfl rfl (fun c1 => ?_) (fun c1 => ?_)
                · refine rp W 0 rfl rfl rfl (.no (fun q => (hP.1 q.1).1 (by omega)))
                refine sp W 0 rfl rfl rfl (fun c2 => ?_) (fun c2 => ?_)
                · refine rp W 0 rfl rfl rfl (.no (fun q => by have := (hP.1 q.1).2.1; omega))
                refine sp W 0 rfl rfl rfl (fun c3 => ?_) (fun c3 => ?_)
                · have c3 : s.getD (n + 1 + j + 1) 0 = 48 := by rw [show ((n : Int) + 1 + (j : Int) + 1).toNat = n + 1 + j + 1 by omega] at c3; exact (u8_eq (c := 48)).1 c3
                  refine sp W 0 rfl rfl rfl (fun c4 => ?_) (fun c4 => ?_)
                  · refine rp W 0 rfl rfl rfl (.no (fun q => (hP.1 q.1).2.2.1 ⟨c3, .inl (by omega)⟩))
                  · have f3 : ¬ (s.getD (n + 1 + j + 1) 0 = 48 ∧ (1 < k ∨ False)) := fun q => q.2.elim (fun q => by omega) id
                    refine sp W 0 rfl rfl rfl (fun c6 => ?_) (fun c6 => ?_)
                    · refine sp W 0 rfl rfl rfl (fun c7 => ?_) (fun c7 => ?_)
                      · rw [show ((n : Int) + 1 + (j : Int) + 1).toNat = n + 1 + j + 1 by omega, show (((n : Int) + 1 + (j : Int) + 1) + (k : Int)).toNat = n + 1 + j + 1 + k by omega] at c7
                        refine rp W 0 rfl rfl rfl (.no (fun q => (hP.1 q.1).2.2.2.1 ⟨by omega, c7⟩))
                      · rw [show ((n : Int) + 1 + (j : Int) + 1).toNat = n + 1 + j + 1 by omega, show (((n : Int) + 1 + (j : Int) + 1) + (k : Int)).toNat = n + 1 + j + 1 + k by omega] at c7
                        have f4 : ¬ (k = 3 ∧ ¬ (Op.bytesLess ((s.take (n + 1 + j + 1 + k)).drop (n + 1 + j + 1)) [52, 48, 48] = true ∨ (s.take (n + 1 + j + 1 + k)).drop (n + 1 + j + 1) = [52, 48, 48])) := fun q => c7 q.2
                        refine rp W 0 rfl rfl rfl (.pr ⟨fun e => ⟨hP.2 ⟨by omega, by omega, f3, f4, by omega⟩, by omega⟩, fun q => by have := (hP.1 q.1).2.2.2.2; omega⟩)
                    · have f4 : ¬ (k = 3 ∧ ¬ (Op.bytesLess ((s.take (n + 1 + j + 1 + k)).drop (n + 1 + j + 1)) [52, 48, 48] = true ∨ (s.take (n + 1 + j + 1 + k)).drop (n + 1 + j + 1) = [52, 48, 48])) := fun q => by have := q.1; omega
                      refine rp W 0 rfl rfl rfl (.pr ⟨fun e => ⟨hP.2 ⟨by omega, by omega, f3, f4, by omega⟩, by omega⟩, fun q => by have := (hP.1 q.1).2.2.2.2; omega⟩)
                · have c3 : ¬ s.getD (n + 1 + j + 1) 0 = 48 := fun e => c3 (by rw [show ((n : Int) + 1 + (j : Int) + 1).toNat = n + 1 + j + 1 by omega]; exact (u8_eq (c := 48)).2 e)
                  have f3 : ¬ (s.getD (n + 1 + j + 1) 0 = 48 ∧ (1 < k ∨ False)) := fun q => c3 q.1
                  refine sp W 0 rfl rfl rfl (fun c6 => ?_) (fun c6 => ?_)
                  · refine sp W 0 rfl rfl rfl (fun c7 => ?_) (fun c7 => ?_)
                    · rw [show ((n : Int) + 1 + (j : Int) + 1).toNat = n + 1 + j + 1 by omega, show (((n : Int) + 1 + (j : Int) + 1) + (k : Int)).toNat = n + 1 + j + 1 + k by omega] at c7
                      refine rp W 0 rfl rfl rfl (.no (fun q => (hP.1 q.1).2.2.2.1 ⟨by omega, c7⟩))
                    · rw [show ((n : Int) + 1 + (j : Int) + 1).toNat = n + 1 + j + 1 by omega, show (((n : Int) + 1 + (j : Int) + 1) + (k : Int)).toNat = n + 1 + j + 1 + k by omega] at c7
                      have f4 : ¬ (k = 3 ∧ ¬ (Op.bytesLess ((s.take (n + 1 + j + 1 + k)).drop (n + 1 + j + 1)) [52, 48, 48] = true ∨ (s.take (n + 1 + j + 1 + k)).drop (n + 1 + j + 1) = [52, 48, 48])) := fun q => c7 q.2
                      refine rp W 0 rfl rfl rfl (.pr ⟨fun e => ⟨hP.2 ⟨by omega, by omega, f3, f4, by omega⟩, by omega⟩, fun q => by have := (hP.1 q.1).2.2.2.2; omega⟩)
                  · have f4 : ¬ (k = 3 ∧ ¬ (Op.bytesLess ((s.take (n + 1 + j + 1 + k)).drop (n + 1 + j + 1)) [52, 48, 48] = true ∨ (s.take (n + 1 + j + 1 + k)).drop (n + 1 + j + 1) = [52, 48, 48])) := fun q => by have := q.1; omega
                    refine rp W 0 rfl rfl rfl (.pr ⟨fun e => ⟨hP.2 ⟨by omega, by omega, f3, f4, by omega⟩, by omega⟩, fun q => by have := (hP.1 q.1).2.2.2.2; omega⟩)
            · rw [show ((n : Int) + 1 + (j : Int)).toNat = n + 1 + j by omega] at p4
              have hn : ¬ numE s := fun e => powE_no (by omega) (fun e => p4 ((u8_eq (c := 101)).2 e)) (hq.1 e)
              refine rp W 0 rfl rfl rfl (.pr ⟨fun e => by omega, fun e => absurd e.1 hn⟩)
          · have hn : numE s := hq.2 (powE_nil (by omega))
            refine rp W 0 rfl rfl rfl (.pr ⟨fun e => ⟨hn, by omega⟩, fun e => by omega⟩)
        · rw [show (n : Int).toNat = n by omega] at p2
          have hq : numE s ↔ powE (s.drop n) := by
            refine hq0.trans ?_
            rw [← r0, fracE_no fun e => p2 ((u8_eq (c := 46)).2 e)]
          refine sp W 0 rfl rfl rfl (fun p3 => ?_) (fun p3 => ?_)
          · refine sp W 0 rfl rfl rfl (fun p4 => ?_) (fun p4 => ?_)
            · rw [show ((n : Int)).toNat = n by omega] at p4
              have hq2 : numE s ↔ powE1 (s.drop (n + 1)) := hq.trans (powE_yes (by omega) ((u8_eq (c := 101)).1 p4))
              refine sp W 0 rfl rfl rfl (fun m1 => ?_) (fun m1 => ?_)
              · refine sp W 0 rfl rfl rfl (fun m2 => ?_) (fun m2 => ?_)
                · rw [show ((n : Int) + 1).toNat = n + 1 by omega] at m2
                  have hu : s.drop (n + 1 + 1) = cutP (s.drop (n + 1)) 45 := cutP_yes (by omega) ((u8_eq (c := 45)).1 m2)
                  have hm : True ↔ (s.drop (n + 1)).head? = some 45 := by rw [head_at (by omega)]; exact ⟨fun _ => (u8_eq (c := 45)).1 m2, fun _ => trivial⟩
                  rw [← show ((n : Int) + 1).toNat = n + 1 by omega] at m2
                  have kr : AFunP Tryz.prog 122 [.str s, .int .i64 ((n : Int) + 1 + 1)] (· = .int .i64 (run s (n + 1 + 1) : Nat)) := by
                    have := l11Run_ok s (n + 1 + 1) (by omega) (by omega)
                    rwa [show ((n + 1 + 1 : Nat) : Int) = (n : Int) + 1 + 1 by omega] at this
                  have tr := run_le s (n + 1 + 1) (by omega)
                  have hP := hq2.trans (powA_ok (a := n + 1 + 1) (m := True) (by omega) hu hm)
                  unfold powA at hP
                  refine ce W 0 rfl rfl (kr) rfl ?_
                  generalize run s (n + 1 + 1) = k at *
                  refine sp W 0 rfl rfl rfl (fun c1 => ?_) (fun c1 => ?_)
                  · refine rp W 0 rfl rfl rfl (.no (fun q => (hP.1 q.1).1 (by omega)))
                  refine sp W 0 rfl rfl rfl (fun c2 => ?_) (fun c2 => ?_)
                  · refine rp W 0 rfl rfl rfl (.no (fun q => by have := (hP.1 q.1).2.1; omega))
                  refine sp W 0 rfl rfl rfl (fun c3 => ?_) (fun c3 => ?_)
                  · have c3 : s.getD (n + 1 + 1) 0 = 48 := by rw [show ((n : Int) + 1 + 1).toNat = n + 1 + 1 by omega] at c3; exact (u8_eq (c := 48)).1 c3
                    refine sp W 0 rfl rfl rfl (fun c4 => ?_) (fun c4 => ?_)
                    · refine rp W 0 rfl rfl rfl (.no (fun q => (hP.1 q.1).2.2.1 ⟨c3, .inl (by omega)⟩))
                    · refine sp W 0 rfl rfl rfl (fun c5 => ?_) (fun c5 => ?_)
                      · refine rp W 0 rfl rfl rfl (.no (fun q => (hP.1 q.1).2.2.1 ⟨c3, .inr trivial⟩))
                      · exact absurd m2 c5
                  · have c3 : ¬ s.getD (n + 1 + 1) 0 = 48 := fun e => c3 (by rw [show ((n : Int) + 1 + 1).toNat = n + 1 + 1 by omega]; exact (u8_eq (c := 48)).2 e)
                    have f3 : ¬ (s.getD (n + 1 + 1) 0 = 48 ∧ (1 < k ∨ True)) := fun q => c3 q.1
                    refine sp W 0 rfl rfl rfl (fun c6 => ?_) (fun c6 => ?_)
                    · refine sp W 0 rfl rfl rfl (fun c7 => ?_) (fun c7 => ?_)
                      · rw [show ((n : Int) + 1 + 1).toNat = n + 1 + 1 by omega, show (((n : Int) + 1 + 1) + (k : Int)).toNat = n + 1 + 1 + k by omega] at c7
                        refine rp W 0 rfl rfl rfl (.no (fun q => (hP.1 q.1).2.2.2.1 ⟨by omega, c7⟩))
                      · rw [show ((n : Int) + 1 + 1).toNat = n + 1 + 1 by omega, show (((n : Int) + 1 + 1) + (k : Int)).toNat = n + 1 + 1 + k by omega] at c7
                        have f4 : ¬ (k = 3 ∧ ¬ (Op.bytesLess ((s.take (n + 1 + 1 + k)).drop (n + 1 + 1)) [52, 48, 48] = true ∨ (s.take (n + 1 + 1 + k)).drop (n + 1 + 1) = [52, 48, 48])) := fun q => c7 q.2
                        refine rp W 0 rfl rfl rfl (.pr ⟨fun e => ⟨hP.2 ⟨by omega, by omega, f3, f4, by omega⟩, by omega⟩, fun q => by have := (hP.1 q.1).2.2.2.2; omega⟩)
                    · have f4 : ¬ (k = 3 ∧ ¬ (Op.bytesLess ((s.take (n + 1 + 1 + k)).drop (n + 1 + 1)) [52, 48, 48] = true ∨ (s.take (n + 1 + 1 + k)).drop (n + 1 + 1) = [52, 48, 48])) := fun q => by have := q.1; omega
                      refine rp W 0 rfl rfl rfl (.pr ⟨fun e => ⟨hP.2 ⟨by omega, by omega, f3, f4, by omega⟩, by omega⟩, fun q => by have := (hP.1 q.1).2.2.2.2; omega⟩)
                · rw [show ((n : Int) + 1).toNat = n + 1 by omega] at m2
                  have hu : s.drop (n + 1) = cutP (s.drop (n + 1)) 45 := cutP_no (by omega) fun e => m2 ((u8_eq (c := 45)).2 e)
                  have hm : False ↔ (s.drop (n + 1)).head? = some 45 := by rw [head_at (by omega)]; exact ⟨False.elim, fun e => m2 ((u8_eq (c := 45)).2 e)⟩
                  rw [← show ((n : Int) + 1).toNat = n + 1 by omega] at m2
                  have kr : AFunP Tryz.prog 122 [.str s, .int .i64 ((n : Int) + 1)] (· = .int .i64 (run s (n + 1) : Nat)) := by
                    have := l11Run_ok s (n + 1) (by omega) (by omega)
                    rwa [show ((n + 1 : Nat) : Int) = (n : Int) + 1 by omega] at this
                  have tr := run_le s (n + 1) (by omega)
                  have hP := hq2.trans (powA_ok (a := n + 1) (m := False) (by omega) hu hm)
                  unfold powA at hP
                  refine ce W 0 rfl rfl (kr) rfl ?_
                  generalize run s (n + 1) = k at *
                  refine sp W 0 rfl rfl rfl (fun c1 => ?_) (fun c1 => ?_)
                  · refine rp W 0 rfl rfl rfl (.no (fun q => (hP.1 q.1).1 (by omega)))
                  refine sp W 0 rfl rfl rfl (fun c2 => ?_) (fun c2 => ?_)
                  · refine rp W 0 rfl rfl rfl (.no (fun q => by have := (hP.1 q.1).2.1; omega))
                  refine sp W 0 rfl rfl rfl (fun c3 => ?_) (fun c3 => ?_)
                  · have c3 : s.getD (n + 1) 0 = 48 := by rw [show ((n : Int) + 1).toNat = n + 1 by omega] at c3; exact (u8_eq (c := 48)).1 c3
                    refine sp W 0 rfl rfl rfl (fun c4 => ?_) (fun c4 => ?_)
                    · refine rp W 0 rfl rfl rfl (.no (fun q => (hP.1 q.1).2.2.1 ⟨c3, .inl (by omega)⟩))
                    · refine sp W 0 rfl rfl rfl (fun c5 => ?_) (fun c5 => ?_)
                      · exact absurd c5 m2
                      · have f3 : ¬ (s.getD (n + 1) 0 = 48 ∧ (1 < k ∨ False)) := fun q => q.2.elim (fun q => by omega) id
                        refine sp W 0 rfl rfl rfl (fun c6 => ?_) (fun c6 => ?_)
                        · refine sp W 0 rfl rfl rfl (fun c7 => ?_) (fun c7 => ?_)
                          · rw [show ((n : Int) + 1).toNat = n + 1 by omega, show (((n : Int) + 1) + (k : Int)).toNat = n + 1 + k by omega] at c7
                            refine rp W 0 rfl rfl rfl (.no (fun q => (hP.1 q.1).2.2.2.1 ⟨by omega, c7⟩))
                          · rw [show ((n : Int) + 1).toNat = n + 1 by omega, show (((n : Int) + 1) + (k : Int)).toNat = n + 1 + k by omega] at c7
                            have f4 : ¬ (k = 3 ∧ ¬ (Op.bytesLess ((s.take (n + 1 + k)).drop (n + 1)) [52, 48, 48] = true ∨ (s.take (n + 1 + k)).drop (n + 1) = [52, 48, 48])) := fun q => c7 q.2
                            refine rp W 0 rfl rfl rfl (.pr ⟨fun e => ⟨hP.2 ⟨by omega, by omega, f3, f4, by omega⟩, by omega⟩, fun q => by have := (hP.1 q.1).2.2.2.2; omega⟩)
                        · have f4 : ¬ (k = 3 ∧ ¬ (Op.bytesLess ((s.take (n + 1 + k)).drop (n + 1)) [52, 48, 48] = true ∨ (s.take (n + 1 + k)).drop (n + 1) = [52, 48, 48])) := fun q => by have := q.1; omega
                          refine rp W 0 rfl rfl rfl (.pr ⟨fun e => ⟨hP.2 ⟨by omega, by omega, f3, f4, by omega⟩, by omega⟩, fun q => by have := (hP.1 q.1).2.2.2.2; omega⟩)
                  · have c3 : ¬ s.getD (n + 1) 0 = 48 := fun e => c3 (by rw [show ((n : Int) + 1).toNat = n + 1 by omega]; exact (u8_eq (c := 48)).2 e)
                    have f3 : ¬ (s.getD (n + 1) 0 = 48 ∧ (1 < k ∨ False)) := fun q => c3 q.1
                    refine sp W 0 rfl rfl rfl (fun c6 => ?_) (fun c6 => ?_)
                    · refine sp W 0 rfl rfl rfl (fun c7 => ?_) (fun c7 => ?_)
                      · rw [show ((n : Int) + 1).toNat = n + 1 by omega, show (((n : Int) + 1) + (k : Int)).toNat = n + 1 + k by omega] at c7
                        refine rp W 0 rfl rfl rfl (.no (fun q => (hP.1 q.1).2.2.2.1 ⟨by omega, c7⟩))
                      · rw [show ((n : Int) + 1).toNat = n + 1 by omega, show (((n : Int) + 1) + (k : Int)).toNat = n + 1 + k by omega] at c7
                        have f4 : ¬ (k = 3 ∧ ¬ (Op.bytesLess ((s.take (n + 1 + k)).drop (n + 1)) [52, 48, 48] = true ∨ (s.take (n + 1 + k)).drop (n + 1) = [52, 48, 48])) := fun q => c7 q.2
                        refine rp W 0 rfl rfl rfl (.pr ⟨fun e => ⟨hP.2 ⟨by omega, by omega, f3, f4, by omega⟩, by omega⟩, fun q => by have := (hP.1 q.1).2.2.2.2; omega⟩)
                    · have f4 : ¬ (k = 3 ∧ ¬ (Op.bytesLess ((s.take (n + 1 + k)).drop (n + 1)) [52, 48, 48] = true ∨ (s.take (n + 1 + k)).drop (n + 1) = [52, 48, 48])) := fun q => by have := q.1; omega
                      refine rp W 0 rfl rfl rfl (.pr ⟨fun e => ⟨hP.2 ⟨by omega, by omega, f3, f4, by omega⟩, by omega⟩, fun q => by have := (hP.1 q.1).2.2.2.2; omega⟩)
              · have e0 : s.drop (n + 1) = [] := List.drop_eq_nil_iff.2 (by omega)
                have hu : s.drop (n + 1) = cutP (s.drop (n + 1)) 45 := by rw [e0]; rfl
                have hm : False ↔ (s.drop (n + 1)).head? = some 45 := by rw [e0]; simp
                have kr : AFunP Tryz.prog 122 [.str s, .int .i64 ((n : Int) + 1)] (· = .int .i64 (run s (n + 1) : Nat)) := by
                  have := l11Run_ok s (n + 1) (by omega) (by omega)
                  rwa [show ((n + 1 : Nat) : Int) = (n : Int) + 1 by omega] at this
                have tr := run_le s (n + 1) (by omega)
                have hP := hq2.trans (powA_ok (a := n + 1) (m := False) (by omega) hu hm)
                unfold powA at hP
                refine ce W 0 rfl rfl (kr) rfl ?_
                generalize run s (n + 1) = k at *
                refine sp W 0 rfl rfl rfl (fun c1 => ?_) (fun c1 => ?_)
                · refine rp W 0 rfl rfl rfl (.no (fun q => (hP.1 q.1).1 (by omega)))
                refine sp W 0 rfl rfl rfl (fun c2 => ?_) (fun c2 => ?_)
                · refine rp W 0 rfl rfl rfl (.no (fun q => by have := (hP.1 q.1).2.1; omega))
                refine sp W 0 rfl rfl rfl (fun c3 => ?_) (fun c3 => ?_)
                · have c3 : s.getD (n + 1) 0 = 48 := by rw [show ((n : Int) + 1).toNat = n + 1 by omega] at c3; exact (u8_eq (c := 48)).1 c3
                  refine sp W 0 rfl rfl rfl (fun c4 => ?_) (fun c4 => ?_)
                  · refine rp W 0 rfl rfl rfl (.no (fun q => (hP.1 q.1).2.2.1 ⟨c3, .inl (by omega)⟩))
                  · have f3 : ¬ (s.getD (n + 1) 0 = 48 ∧ (1 < k ∨ False)) := fun q => q.2.elim (fun q => by omega) id
                    refine sp W 0 rfl rfl rfl (fun c6 => ?_) (fun c6 => ?_)
                    · refine sp W 0 rfl rfl rfl (fun c7 => ?_) (fun c7 => ?_)
                      · rw [show ((n : Int) + 1).toNat = n + 1 by omega, show (((n : Int) + 1) + (k : Int)).toNat = n + 1 + k by omega] at c7
                        refine rp W 0 rfl rfl rfl (.no (fun q => (hP.1 q.1).2.2.2.1 ⟨by omega, c7⟩))
                      · rw [show ((n : Int) + 1).toNat = n + 1 by omega, show (((n : Int) + 1) + (k : Int)).toNat = n + 1 + k by omega] at c7
                        have f4 : ¬ (k = 3 ∧ ¬ (Op.bytesLess ((s.take (n + 1 + k)).drop (n + 1)) [52, 48, 48] = true ∨ (s.take (n + 1 + k)).drop (n + 1) = [52, 48, 48])) := fun q => c7 q.2
                        refine rp W 0 rfl rfl rfl (.pr ⟨fun e => ⟨hP.2 ⟨by omega, by omega, f3, f4, by omega⟩, by omega⟩, fun q => by have := (hP.1 q.1).2.2.2.2; omega⟩)
                    · have f4 : ¬ (k = 3 ∧ ¬ (Op.bytesLess ((s.take (n + 1 + k)).drop (n + 1)) [52, 48, 48] = true ∨ (s.take (n + 1 + k)).drop (n + 1) = [52, 48, 48])) := fun q => by have := q.1; omega
                      refine rp W 0 rfl rfl rfl (.pr ⟨fun e => ⟨hP.2 ⟨by omega, by omega, f3, f4, by omega⟩, by omega⟩, fun q => by have := (hP.1 q.1).2.2.2.2; omega⟩)
                · have c3 : ¬ s.getD (n + 1) 0 = 48 := fun e => c3 (by rw [show ((n : Int) + 1).toNat = n + 1 by omega]; exact (u8_eq (c := 48)).2 e)
                  have f3 : ¬ (s.getD (n + 1) 0 = 48 ∧ (1 < k ∨ False)) := fun q => c3 q.1
                  refine sp W 0 rfl rfl rfl (fun c6 => ?_) (fun c6 => ?_)
                  · refine sp W 0 rfl rfl rfl (fun c7 => ?_) (fun c7 => ?_)
                    · rw [show ((n : Int) + 1).toNat = n + 1 by omega, show (((n : Int) + 1) + (k : Int)).toNat = n + 1 + k by omega] at c7
                      refine rp W 0 rfl rfl rfl (.no (fun q => (hP.1 q.1).2.2.2.1 ⟨by omega, c7⟩))
                    · rw [show ((n : Int) + 1).toNat = n + 1 by omega, show (((n : Int) + 1) + (k : Int)).toNat = n + 1 + k by omega] at c7
                      have f4 : ¬ (k = 3 ∧ ¬ (Op.bytesLess ((s.take (n + 1 + k)).drop (n + 1)) [52, 48, 48] = true ∨ (s.take (n + 1 + k)).drop (n + 1) = [52, 48, 48])) := fun q => c7 q.2
                      refine rp W 0 rfl rfl rfl (.pr ⟨fun e => ⟨hP.2 ⟨by omega, by omega, f3, f4, by omega⟩, by omega⟩, fun q => by have := (hP.1 q.1).2.2.2.2; omega⟩)
                  · have f4 : ¬ (k = 3 ∧ ¬ (Op.bytesLess ((s.take (n + 1 + k)).drop (n + 1)) [52, 48, 48] = true ∨ (s.take (n + 1 + k)).drop (n + 1) = [52, 48, 48])) := fun q => by have := q.1; omega
                    refine rp W 0 rfl rfl rfl (.pr ⟨fun e => ⟨hP.2 ⟨by omega, by omega, f3, f4, by omega⟩, by omega⟩, fun q => by have := (hP.1 q.1).2.2.2.2; omega⟩)
            · rw [show ((n : Int)).toNat = n by omega] at p4
              have hn : ¬ numE s := fun e => powE_no (by omega) (fun e => p4 ((u8_eq (c := 101)).2 e)) (hq.1 e)
              refine rp W 0 rfl rfl rfl (.pr ⟨fun e => by omega, fun e => absurd e.1 hn⟩)
          · have hn : numE s := hq.2 (powE_nil (by omega))
            refine rp W 0 rfl rfl rfl (.pr ⟨fun e => ⟨hn, by omega⟩, fun e => by omega⟩)
      · have hq : numE s ↔ powE (s.drop n) := by
          refine hq0.trans ?_
          rw [← r0, show s.drop n = [] from List.drop_eq_nil_iff.2 (by omega)]
          simp [fracE]
        refine sp W 0 rfl rfl rfl (fun p3 => ?_) (fun p3 => ?_)
        · refine sp W 0 rfl rfl rfl (fun p4 => ?_) (fun p4 => ?_)
          · rw [show ((n : Int)).toNat = n by omega] at p4
            have hq2 : numE s ↔ powE1 (s.drop (n + 1)) := hq.trans (powE_yes (by omega) ((u8_eq (c := 101)).1 p4))
            refine sp W 0 rfl rfl rfl (fun m1 => ?_) (fun m1 => ?_)
            · refine sp W 0 rfl rfl rfl (fun m2 => ?_) (fun m2 => ?_)
              · rw [show ((n : Int) + 1).toNat = n + 1 by omega] at m2
                have hu : s.drop (n + 1 + 1) = cutP (s.drop (n + 1)) 45 := cutP_yes (by omega) ((u8_eq (c := 45)).1 m2)
                have hm : True ↔ (s.drop (n + 1)).head? = some 45 := by rw [head_at (by omega)]; exact ⟨fun _ => (u8_eq (c := 45)).1 m2, fun _ => trivial⟩
                rw [← show ((n : Int) + 1).toNat = n + 1 by omega] at m2
                have kr : AFunP Tryz.prog 122 [.str s, .int .i64 ((n : Int) + 1 + 1)] (· = .int .i64 (run s (n + 1 + 1) : Nat)) := by
                  have := l11Run_ok s (n + 1 + 1) (by omega) (by omega)
                  rwa [show ((n + 1 + 1 : Nat) : Int) = (n : Int) + 1 + 1 by omega] at this
                have tr := run_le s (n + 1 + 1) (by omega)
                have hP := hq2.trans (powA_ok (a := n + 1 + 1) (m := True) (by omega) hu hm)
                unfold powA at hP
                refine ce W 0 rfl rfl (kr) rfl ?_
                generalize run s (n + 1 + 1) = k at *
                refine sp W 0 rfl rfl rfl (fun c1 => ?_) (fun c1 => ?_)
                · refine rp W 0 rfl rfl rfl (.no (fun q => (hP.1 q.1).1 (by omega)))
                refine sp W 0 rfl rfl rfl (fun c2 => ?_) (fun c2 => ?_)
                · refine rp W 0 rfl rfl rfl (.no (fun q => by have := (hP.1 q.1).2.1; omega))
                refine sp W 0 rfl rfl rfl (fun c3 => ?_) (fun c3 => ?_)
                · have c3 : s.getD (n + 1 + 1) 0 = 48 := by rw [show ((n : Int) + 1 + 1).toNat = n + 1 + 1 by omega] at c3; exact (u8_eq (c := 48)).1 c3
                  refine sp W 0 rfl rfl rfl (fun c4 => ?_) (fun c4 => ?_)
                  · refine rp W 0 rfl rfl rfl (.no (fun q => (hP.1 q.1).2.2.1 ⟨c3, .inl (by omega)⟩))
                  · refine sp W 0 rfl rfl rfl (fun c5 => ?_) (fun c5 => ?_)
                    · refine rp W 0 rfl rfl rfl (.no (fun q => (hP.1 q.1).2.2.1 ⟨c3, .inr trivial⟩))
                    · exact absurd m2 c5
                · have c3 : ¬ s.getD (n + 1 + 1) 0 = 48 := fun e => c3 (by rw [show ((n : Int) + 1 + 1).toNat = n + 1 + 1 by omega]; exact (u8_eq (c := 48)).2 e)
                  have f3 : ¬ (s.getD (n + 1 + 1) 0 = 48 ∧ (1 < k ∨ True)) := fun q => c3 q.1
                  refine sp W 0 rfl rfl rfl (fun c6 => ?_) (fun c6 => ?_)
                  · refine sp W 0 rfl rfl rfl (fun c7 => ?_) (fun c7 => ?_)
                    · rw [show ((n : Int) + 1 + 1).toNat = n + 1 + 1 by omega, show (((n : Int) + 1 + 1) + (k : Int)).toNat = n + 1 + 1 + k by omega] at c7
                      refine rp W 0 rfl rfl rfl (.no (fun q => (hP.1 q.1).2.2.2.1 ⟨by omega, c7⟩))
                    · rw [show ((n : Int) + 1 + 1).toNat = n + 1 + 1 by omega, show (((n : Int) + 1 + 1) + (k : Int)).toNat = n + 1 + 1 + k by omega] at c7
                      have f4 : ¬ (k = 3 ∧ ¬ (Op.bytesLess ((s.take (n + 1 + 1 + k)).drop (n + 1 + 1)) [52, 48, 48] = true ∨ (s.take (n + 1 + 1 + k)).drop (n + 1 + 1) = [52, 48, 48])) := fun q => c7 q.2
                      refine rp W 0 rfl rfl rfl (.pr ⟨fun e => ⟨hP.2 ⟨by omega, by omega, f3, f4, by omega⟩, by omega⟩, fun q => by have := (hP.1 q.1).2.2.2.2; omega⟩)
                  · have f4 : ¬ (k = 3 ∧ ¬ (Op.bytesLess ((s.take (n + 1 + 1 + k)).drop (n + 1 + 1)) [52, 48, 48] = true ∨ (s.take (n + 1 + 1 + k)).drop (n + 1 + 1) = [52, 48, 48])) := fun q => by have := q.1; omega
                    refine rp W 0 rfl rfl rfl (.pr ⟨fun e => ⟨hP.2 ⟨by omega, by omega, f3, f4, by omega⟩, by omega⟩, fun q => by have := (hP.1 q.1).2.2.2.2; omega⟩)
              · rw [show ((n : Int) + 1).toNat = n + 1 by omega] at m2
                have hu : s.drop (n + 1) = cutP (s.drop (n + 1)) 45 := cutP_no (by omega) fun e => m2 ((u8_eq (c := 45)).2 e)
                have hm : False ↔ (s.drop (n + 1)).head? = some 45 := by rw [head_at (by omega)]; exact ⟨False.elim, fun e => m2 ((u8_eq (c := 45)).2 e)⟩
                rw [← show ((n : Int) + 1).toNat = n + 1 by omega] at m2
                have kr : AFunP Tryz.prog 122 [.str s, .int .i64 ((n : Int) + 1)] (· = .int .i64 (run s (n + 1) : Nat)) := by
                  have := l11Run_ok s (n + 1) (by omega) (by omega)
                  rwa [show ((n + 1 : Nat) : Int) = (n : Int) + 1 by omega] at this
                have tr := run_le s (n + 1) (by omega)
                have hP := hq2.trans (powA_ok (a := n + 1) (m := False) (by omega) hu hm)
                unfold powA at hP
                refine ce W 0 rfl rfl (kr) rfl ?_
                generalize run s (n + 1) = k at *
                refine sp W 0 rfl rfl rfl (fun c1 => ?_) (fun c1 => ?_)
                · refine rp W 0 rfl rfl rfl (.no (fun q => (hP.1 q.1).1 (by omega)))
                refine sp W 0 rfl rfl rfl (fun c2 => ?_) (fun c2 => ?_)
                · refine rp W 0 rfl rfl rfl (.no (fun q => by have := (hP.1 q.1).2.1; omega))
                refine sp W 0 rfl rfl rfl (fun c3 => ?_) (fun c3 => ?_)
                · have c3 : s.getD (n + 1) 0 = 48 := by rw [show ((n : Int) + 1).toNat = n + 1 by omega] at c3; exact (u8_eq (c := 48)).1 c3
                  refine sp W 0 rfl rfl rfl (fun c4 => ?_) (fun c4 => ?_)
                  · refine rp W 0 rfl rfl rfl (.no (fun q => (hP.1 q.1).2.2.1 ⟨c3, .inl (by omega)⟩))
                  · refine sp W 0 rfl rfl rfl (fun c5 => ?_) (fun c5 => ?_)
                    · exact absurd c5 m2
                    · have f3 : ¬ (s.getD (n + 1) 0 = 48 ∧ (1 < k ∨ False)) := fun q => q.2.elim (fun q => by omega) id
                      refine sp W 0 rfl rfl rfl (fun c6 => ?_) (fun c6 => ?_)
                      · refine sp W 0 rfl rfl rfl (fun c7 => ?_) (fun c7 => ?_)
                        · rw [show ((n : Int) + 1).toNat = n + 1 by omega, show (((n : Int) + 1) + (k : Int)).toNat = n + 1 + k by omega] at c7
                          refine rp W 0 rfl rfl rfl (.no (fun q => (hP.1 q.1).2.2.2.1 ⟨by omega, c7⟩))
                        · rw [show ((n : Int) + 1).toNat = n + 1 by omega, show (((n : Int) + 1) + (k : Int)).toNat = n + 1 + k by omega] at c7
                          have f4 : ¬ (k = 3 ∧ ¬ (Op.bytesLess ((s.take (n + 1 + k)).drop (n + 1)) [52, 48, 48] = true ∨ (s.take (n + 1 + k)).drop (n + 1) = [52, 48, 48])) := fun q => c7 q.2
                          refine rp W 0 rfl rfl rfl (.pr ⟨fun e => ⟨hP.2 ⟨by omega, by omega, f3, f4, by omega⟩, by omega⟩, fun q => by have := (hP.1 q.1).2.2.2.2; omega⟩)
                      · have f4 : ¬ (k = 3 ∧ ¬ (Op.bytesLess ((s.take (n + 1 + k)).drop (n + 1)) [52, 48, 48] = true ∨ (s.take (n + 1 + k)).drop (n + 1) = [52, 48, 48])) := fun q => by have := q.1; omega
                        refine rp W 0 rfl rfl rfl (.pr ⟨fun e => ⟨hP.2 ⟨by omega, by omega, f3, f4, by omega⟩, by omega⟩, fun q => by have := (hP.1 q.1).2.2.2.2; omega⟩)
                · have c3 : ¬ s.getD (n + 1) 0 = 48 := fun e => c3 (by rw [show ((n : Int) + 1).toNat = n + 1 by omega]; exact (u8_eq (c := 48)).2 e)
                  have f3 : ¬ (s.getD (n + 1) 0 = 48 ∧ (1 < k ∨ False)) := fun q => c3 q.1
                  refine sp W 0 rfl rfl rfl (fun c6 => ?_) (fun c6 => ?_)
                  · refine sp W 0 rfl rfl rfl (fun c7 => ?_) (fun c7 => ?_)
                    · rw [show ((n : Int) + 1).toNat = n + 1 by omega, show (((n : Int) + 1) + (k : Int)).toNat = n + 1 + k by omega] at c7
                      refine rp W 0 rfl rfl rfl (.no (fun q => (hP.1 q.1).2.2.2.1 ⟨by omega, c7⟩))
                    · rw [show ((n : Int) + 1).toNat = n + 1 by omega, show (((n : Int) + 1) + (k : Int)).toNat = n + 1 + k by omega] at c7
                      have f4 : ¬ (k = 3 ∧ ¬ (Op.bytesLess ((s.take (n + 1 + k)).drop (n + 1)) [52, 48, 48] = true ∨ (s.take (n + 1 + k)).drop (n + 1) = [52, 48, 48])) := fun q => c7 q.2
                      refine rp W 0 rfl rfl rfl (.pr ⟨fun e => ⟨hP.2 ⟨by omega, by omega, f3, f4, by omega⟩, by omega⟩, fun q => by have := (hP.1 q.1).2.2.2.2; omega⟩)
                  · have f4 : ¬ (k = 3 ∧ ¬ (Op.bytesLess ((s.take (n + 1 + k)).drop (n + 1)) [52, 48, 48] = true ∨ (s.take (n + 1 + k)).drop (n + 1) = [52, 48, 48])) := fun q => by have := q.1; omega
                    refine rp W 0 rfl rfl rfl (.pr ⟨fun e => ⟨hP.2 ⟨by omega, by omega, f3, f4, by omega⟩, by omega⟩, fun q => by have := (hP.1 q.1).2.2.2.2; omega⟩)
            · have e0 : s.drop (n + 1) = [] := List.drop_eq_nil_iff.2 (by omega)
              have hu : s.drop (n + 1) = cutP (s.drop (n + 1)) 45 := by rw [e0]; rfl
              have hm : False ↔ (s.drop (n + 1)).head? = some 45 := by rw [e0]; simp
              have kr : AFunP Tryz.prog 122 [.str s, .int .i64 ((n : Int) + 1)] (· = .int .i64 (run s (n + 1) : Nat)) := by
                have := l11Run_ok s (n + 1) (by omega) (by omega)
                rwa [show ((n + 1 : Nat) : Int) = (n : Int) + 1 by omega] at this
              have tr := run_le s (n + 1) (by omega)
              have hP := hq2.trans (powA_ok (a := n + 1) (m := False) (by omega) hu hm)
              unfold powA at hP
              refine ce W 0 rfl rfl (kr) rfl ?_
              generalize run s (n + 1) = k at *
              refine sp W 0 rfl rfl rfl (fun c1 => ?_) (fun c1 => ?_)
              · refine rp W 0 rfl rfl rfl (.no (fun q => (hP.1 q.1).1 (by omega)))
              refine sp W 0 rfl rfl rfl (fun c2 => ?_) (fun c2 => ?_)
              · refine rp W 0 rfl rfl rfl (.no (fun q => by have := (hP.1 q.1).2.1; omega))
              refine sp W 0 rfl rfl rfl (fun c3 => ?_) (fun c3 => ?_)
              · have c3 : s.getD (n + 1) 0 = 48 := by rw [show ((n : Int) + 1).toNat = n + 1 by omega] at c3; exact (u8_eq (c := 48)).1 c3
                refine sp W 0 rfl rfl rfl (fun c4 => ?_) (fun c4 => ?_)
                · refine rp W 0 rfl rfl rfl (.no (fun q => (hP.1 q.1).2.2.1 ⟨c3, .inl (by omega)⟩))
                · have f3 : ¬ (s.getD (n + 1) 0 = 48 ∧ (1 < k ∨ False)) := fun q => q.2.elim (fun q => by omega) id
                  refine sp W 0 rfl rfl rfl (fun c6 => ?_) (fun c6 => ?_)
                  · refine sp W 0 rfl rfl rfl (fun c7 => ?_) (fun c7 => ?_)
                    · rw [show ((n : Int) + 1).toNat = n + 1 by omega, show (((n : Int) + 1) + (k : Int)).toNat = n + 1 + k by omega] at c7
                      refine rp W 0 rfl rfl rfl (.no (fun q => (hP.1 q.1).2.2.2.1 ⟨by omega, c7⟩))
                    · rw [show ((n : Int) + 1).toNat = n + 1 by omega, show (((n : Int) + 1) + (k : Int)).toNat = n + 1 + k by omega] at c7
                      have f4 : ¬ (k = 3 ∧ ¬ (Op.bytesLess ((s.take (n + 1 + k)).drop (n + 1)) [52, 48, 48] = true ∨ (s.take (n + 1 + k)).drop (n + 1) = [52, 48, 48])) := fun q => c7 q.2
                      refine rp W 0 rfl rfl rfl (.pr ⟨fun e => ⟨hP.2 ⟨by omega, by omega, f3, f4, by omega⟩, by omega⟩, fun q => by have := (hP.1 q.1).2.2.2.2; omega⟩)
                  · have f4 : ¬ (k = 3 ∧ ¬ (Op.bytesLess ((s.take (n + 1 + k)).drop (n + 1)) [52, 48, 48] = true ∨ (s.take (n + 1 + k)).drop (n + 1) = [52, 48, 48])) := fun q => by have := q.1; omega
                    refine rp W 0 rfl rfl rfl (.pr ⟨fun e => ⟨hP.2 ⟨by omega, by omega, f3, f4, by omega⟩, by omega⟩, fun q => by have := (hP.1 q.1).2.2.2.2; omega⟩)
              · have c3 : ¬ s.getD (n + 1) 0 = 48 := fun e => c3 (by rw [show ((n : Int) + 1).toNat = n + 1 by omega]; exact (u8_eq (c := 48)).2 e)
                have f3 : ¬ (s.getD (n + 1) 0 = 48 ∧ (1 < k ∨ False)) := fun q => c3 q.1
                refine sp W 0 rfl rfl rfl (fun c6 => ?_) (fun c6 => ?_)
                · refine sp W 0 rfl rfl rfl (fun c7 => ?_) (fun c7 => ?_)
                  · rw [show ((n : Int) + 1).toNat = n + 1 by omega, show (((n : Int) + 1) + (k : Int)).toNat = n + 1 + k by omega] at c7
                    refine rp W 0 rfl rfl rfl (.no (fun q => (hP.1 q.1).2.2.2.1 ⟨by omega, c7⟩))
                  · rw [show ((n : Int) + 1).toNat = n + 1 by omega, show (((n : Int) + 1) + (k : Int)).toNat = n + 1 + k by omega] at c7
                    have f4 : ¬ (k = 3 ∧ ¬ (Op.bytesLess ((s.take (n + 1 + k)).drop (n + 1)) [52, 48, 48] = true ∨ (s.take (n + 1 + k)).drop (n + 1) = [52, 48, 48])) := fun q => c7 q.2
                    refine rp W 0 rfl rfl rfl (.pr ⟨fun e => ⟨hP.2 ⟨by omega, by omega, f3, f4, by omega⟩, by omega⟩, fun q => by have := (hP.1 q.1).2.2.2.2; omega⟩)
                · have f4 : ¬ (k = 3 ∧ ¬ (Op.bytesLess ((s.take (n + 1 + k)).drop (n + 1)) [52, 48, 48] = true ∨ (s.take (n + 1 + k)).drop (n + 1) = [52, 48, 48])) := fun q => by have := q.1; omega
                  refine rp W 0 rfl rfl rfl (.pr ⟨fun e => ⟨hP.2 ⟨by omega, by omega, f3, f4, by omega⟩, by omega⟩, fun q => by have := (hP.1 q.1).2.2.2.2; omega⟩)
          · rw [show ((n : Int)).toNat = n by omega] at p4
            have hn : ¬ numE s := fun e => powE_no (by omega) (fun e => p4 ((u8_eq (c := 101)).2 e)) (hq.1 e)
            refine rp W 0 rfl rfl rfl (.pr ⟨fun e => by omega, fun e => absurd e.1 hn⟩)
        · have hn : numE s := hq.2 (powE_nil (by omega))
          refine rp W 0 rfl rfl rfl (.pr ⟨fun e => ⟨hn, by omega⟩, fun e => by omega⟩)
  · have hw := (w0 (by omega)).2 fun k => by have := k.1; omega
    have hq0 : numE s ↔ fracE (Rg s) := ⟨fun e => e.2, fun e => ⟨hw, e⟩⟩
    refine sp W 0 rfl rfl rfl (fun p1 => ?_) (fun p1 => ?_)
    · refine sp W 0 rfl rfl rfl (fun p2 => ?_) (fun p2 => ?_)
      · rw [show (n : Int).toNat = n by omega] at p2
        have p2 := (u8_eq (c := 46)).1 p2
        have kk : AFunP Tryz.prog 122 [.str s, .int .i64 ((n : Int) + 1)] (· = .int .i64 (run s (n + 1) : Nat)) := l11Run_ok s (n + 1) (by omega) (by omega)
        have tk := run_le s (n + 1) (by omega)
        have hf : numE s ↔ run s (n + 1) ≠ 0 ∧ powE (s.drop (n + 1 + run s (n + 1))) := by
          refine hq0.trans ?_
          rw [← r0, fracE_yes (by omega) p2]
        refine ce W 0 rfl rfl (kk) rfl ?_
        generalize run s (n + 1) = j at *
        refine sp W 0 rfl rfl rfl (fun p5 => ?_) (fun p5 => ?_)
        · refine rp W 0 rfl rfl rfl (.no (fun q => (hf.1 q.1).1 (by omega)))
        have hq : numE s ↔ powE (s.drop (n + 1 + j)) := ⟨fun e => (hf.1 e).2, fun e => hf.2 ⟨by omega, e⟩⟩
        refine sp W 0 rfl rfl rfl (fun p3 => ?_) (fun p3 => ?_)
        · refine sp W 0 rfl rfl rfl (fun p4 => ?_) (fun p4 => ?_)
          · rw [show ((n : Int) + 1 + (j : Int)).toNat = n + 1 + j by omega] at p4
            have hq2 : numE s ↔ powE1 (s.drop (n + 1 + j + 1)) := hq.trans (powE_yes (by omega) ((u8_eq (c := 101)).1 p4))
            refine sp W 0 rfl rfl rfl (fun m1 => ?_) (fun m1 => ?_)
            · refine sp W 0 rfl rfl rfl (fun m2 => ?_) (fun m2 => ?_)
              · rw [show ((n : Int) + 1 + (j : Int) + 1).toNat = n + 1 + j + 1 by omega] at m2
                have hu : s.drop (n + 1 + j + 1 + 1) = cutP (s.drop (n + 1 + j + 1)) 45 := cutP_yes (by omega) ((u8_eq (c := 45)).1 m2)
                have hm : True ↔ (s.drop (n + 1 + j + 1)).head? = some 45 := by rw [head_at (by omega)]; exact ⟨fun _ => (u8_eq (c := 45)).1 m2, fun _ => trivial⟩
                rw [← show ((n : Int) + 1 + (j : Int) + 1).toNat = n + 1 + j + 1 by omega] at m2
                have kr : AFunP Tryz.prog 122 [.str s, .int .i64 ((n : Int) + 1 + (j : Int) + 1 + 1)] (· = .int .i64 (run s (n + 1 + j + 1 + 1) : Nat)) := by
                  have := l11Run_ok s (n + 1 + j + 1 + 1) (by omega) (by omega)
                  rwa [show ((n + 1 + j + 1 + 1 : Nat) : Int) = (n : Int) + 1 + (j : Int) + 1 + 1 by omega] at this
                have tr := run_le s (n + 1 + j + 1 + 1) (by omega)
                have hP := hq2.trans (powA_ok (a := n + 1 + j + 1 + 1) (m := True) (by omega) hu hm)
                unfold powA at hP
                refine ce W 0 rfl rfl (kr) rfl ?_
                generalize run s (n + 1 + j + 1 + 1) = k at *
                refine sp W 0 rfl rfl rfl (fun c1 => ?_) (fun c1 => ?_)
                · refine rp W 0 rfl rfl rfl (.no (fun q => (hP.1 q.1).1 (by omega)))
                refine sp W 0 rfl rfl rfl (fun c2 => ?_) (fun c2 => ?_)
                · refine rp W 0 rfl rfl rfl (.no (fun q => by have := (hP.1 q.1).2.1; omega))
                refine sp W 0 rfl rfl rfl (fun c3 => ?_) (fun c3 => ?_)
                · have c3 : s.getD (n + 1 + j + 1 + 1) 0 = 48 := by rw [show ((n : Int) + 1 + (j : Int) + 1 + 1).toNat = n + 1 + j + 1 + 1 by omega] at c3; exact (u8_eq (c := 48)).1 c3
                  refine sp W 0 rfl rfl rfl (fun c4 => ?_) (fun c4 => ?_)
                  · refine rp W 0 rfl rfl rfl (.no (fun q => (hP.1 q.1).2.2.1 ⟨c3, .inl (by omega)⟩))
                  · refine sp W 0 rfl rfl rfl (fun c5 => ?_) (fun c5 => ?_)
                    · refine rp W 0 rfl rfl rfl (.no (fun q => (hP.1 q.1).2.2.1 ⟨c3, .inr trivial⟩))
                    · exact absurd m2 c5
                · have c3 : ¬ s.getD (n + 1 + j + 1 + 1) 0 = 48 := fun e => c3 (by rw [show ((n : Int) + 1 + (j : Int) + 1 + 1).toNat = n + 1 + j + 1 + 1 by omega]; exact (u8_eq (c := 48)).2 e)
                  have f3 : ¬ (s.getD (n + 1 + j + 1 + 1) 0 = 48 ∧ (1 < k ∨ True)) := fun q => c3 q.1
                  refine sp W 0 rfl rfl rfl (fun c6 => ?_) (fun c6 => ?_)
                  · refine sp W 0 rfl rfl rfl (fun c7 => ?_) (fun c7 => ?_)
                    · rw [show ((n : Int) + 1 + (j : Int) + 1 + 1).toNat = n + 1 + j + 1 + 1 by omega, show (((n : Int) + 1 + (j : Int) + 1 + 1) + (k : Int)).toNat = n + 1 + j + 1 + 1 + k by omega] at c7
                      refine rp W 0 rfl rfl rfl (.no (fun q => (hP.1 q.1).2.2.2.1 ⟨by omega, c7⟩))
                    · rw [show ((n : Int) + 1 + (j : Int) + 1 + 1).toNat = n + 1 + j + 1 + 1 by omega, show (((n : Int) + 1 + (j : Int) + 1 + 1) + (k : Int)).toNat = n + 1 + j + 1 + 1 + k by omega] at c7
                      have f4 : ¬ (k = 3 ∧ ¬ (Op.bytesLess ((s.take (n + 1 + j + 1 + 1 + k)).drop (n + 1 + j + 1 + 1)) [52, 48, 48] = true ∨ (s.take (n + 1 + j + 1 + 1 + k)).drop (n + 1 + j + 1 + 1) = [52, 48, 48])) := fun q => c7 q.2
                      refine rp W 0 rfl rfl rfl (.pr ⟨fun e => ⟨hP.2 ⟨by omega, by omega, f3, f4, by omega⟩, by omega⟩, fun q => by have := (hP.1 q.1).2.2.2.2; omega⟩)
                  · have f4 : ¬ (k = 3 ∧ ¬ (Op.bytesLess ((s.take (n + 1 + j + 1 + 1 + k)).drop (n + 1 + j + 1 + 1)) [52, 48, 48] = true ∨ (s.take (n + 1 + j + 1 + 1 + k)).drop (n + 1 + j + 1 + 1) = [52, 48, 48])) := fun q => by have := q.1; omega
                    refine rp W 0 rfl rfl rfl (.pr ⟨fun e => ⟨hP.2 ⟨by omega, by omega, f3, f4, by omega⟩, by omega⟩, fun q => by have := (hP.1 q.1).2.2.2.2; omega⟩)
              · rw [show ((n : Int) + 1 + (j : Int) + 1).toNat = n + 1 + j + 1 by omega] at m2
                have hu : s.drop (n + 1 + j + 1) = cutP (s.drop (n + 1 + j + 1)) 45 := cutP_no (by omega) fun e => m2 ((u8_eq (c := 45)).2 e)
                have hm : False ↔ (s.drop (n + 1 + j + 1)).head? = some 45 := by rw [head_at (by omega)]; exact ⟨False.elim, fun e => m2 ((u8_eq (c := 45)).2 e)⟩
                rw [← show ((n : Int) + 1 + (j : Int) + 1).toNat = n + 1 + j + 1 by omega] at m2
                have kr : AFunP Tryz.prog 122 [.str s, .int .i64 ((n : Int) + 1 + (j : Int) + 1)] (· = .int .i64 (run s (n + 1 + j + 1) : Nat)) := by
                  have := l11Run_ok s (n + 1 + j + 1) (by omega) (by omega)
                  rwa [show ((n + 1 + j + 1 : Nat) : Int) = (n : Int) + 1 + (j : Int) + 1 by omega] at this
                have tr := run_le s (n + 1 + j + 1) (by omega)
                have hP := hq2.trans (powA_ok (a := n + 1 + j + 1) (m := False) (by omega) hu hm)
                unfold powA at hP
                refine ce W 0 rfl rfl (kr) rfl ?_
                generalize run s (n + 1 + j + 1) = k at *
                refine sp W 0 rfl rfl rfl (fun c1 => ?_) (fun c1 => ?_)
                · refine rp W 0 rfl rfl rfl (.no (fun q => (hP.1 q.1).1 (by omega)))
                refine sp W 0 rfl rfl rfl (fun c2 => ?_) (fun c2 => ?_)
                · refine rp W 0 rfl rfl rfl (.no (fun q => by have := (hP.1 q.1).2.1; omega))
                refine sp W 0 rfl rfl rfl (fun c3 => ?_) (fun c3 => ?_)
                · have c3 : s.getD (n + 1 + j + 1) 0 = 48 := by rw [show ((n : Int) + 1 + (j : Int) + 1).toNat = n + 1 + j + 1 by omega] at c3; exact (u8_eq (c := 48)).1 c3
                  refine sp W 0 rfl rfl rfl (fun c4 => ?_) (fun c4 => ?_)
                  · refine rp W 0 rfl rfl rfl (.no (fun q => (hP.1 q.1).2.2.1 ⟨c3, .inl (by omega)⟩))
                  · refine sp W 0 rfl rfl rfl (fun c5 => ?_) (fun c5 => ?_)
                    · exact absurd c5 m2
                    · have f3 : ¬ (s.getD (n + 1 + j + 1) 0 = 48 ∧ (1 < k ∨ False)) := fun q => q.2.elim (fun q => by omega) id
                      refine sp W 0 rfl rfl rfl (fun c6 => ?_) (fun c6 => ?_)
                      · refine sp W 0 rfl rfl rfl (fun c7 => ?_) (fun c7 => ?_)
                        · rw [show ((n : Int) + 1 + (j : Int) + 1).toNat = n + 1 + j + 1 by omega, show (((n : Int) + 1 + (j : Int) + 1) + (k : Int)).toNat = n + 1 + j + 1 + k by omega] at c7
                          refine rp W 0 rfl rfl rfl (.no (fun q => (hP.1 q.1).2.2.2.1 ⟨by omega, c7⟩))
                        · rw [show ((n : Int) + 1 + (j : Int) + 1).toNat = n + 1 + j + 1 by omega, show (((n : Int) + 1 + (j : Int) + 1) + (k : Int)).toNat = n + 1 + j + 1 + k by omega] at c7
                          have f4 : ¬ (k = 3 ∧ ¬ (Op.bytesLess ((s.take (n + 1 + j + 1 + k)).drop (n + 1 + j + 1)) [52, 48, 48] = true ∨ (s.take (n + 1 + j + 1 + k)).drop (n + 1 + j + 1) = [52, 48, 48])) := fun q => c7 q.2
                          refine rp W 0 rfl rfl rfl (.pr ⟨fun e => ⟨hP.2 ⟨by omega, by omega, f3, f4, by omega⟩, by omega⟩, fun q => by have := (hP.1 q.1).2.2.2.2; omega⟩)
                      · have f4 : ¬ (k = 3 ∧ ¬ (Op.bytesLess ((s.take (n + 1 + j + 1 + k)).drop (n + 1 + j + 1)) [52, 48, 48] = true ∨ (s.take (n + 1 + j + 1 + k)).drop (n + 1 + j + 1) = [52, 48, 48])) := fun q => by have := q.1; omega
                        refine rp W 0 rfl rfl rfl (.pr ⟨fun e => ⟨hP.2 ⟨by omega, by omega, f3, f4, by omega⟩, by omega⟩, fun q => by have := (hP.1 q.1).2.2.2.2; omega⟩)
                · have c3 : ¬ s.getD (n + 1 + j + 1) 0 = 48 := fun e => c3 (by rw [show ((n : Int) + 1 + (j : Int) + 1).toNat = n + 1 + j + 1 by omega]; exact (u8_eq (c := 48)).2 e)
                  have f3 : ¬ (s.getD (n + 1 + j + 1) 0 = 48 ∧ (1 < k ∨ False)) := fun q => c3 q.1
                  refine sp W 0 rfl rfl rfl (fun c6 => ?_) (fun c6 => ?_)
                  · refine sp W 0 rfl rfl rfl (fun c7 => ?_) (fun c7 => ?_)
                    · rw [show ((n : Int) + 1 + (j : Int) + 1).toNat = n + 1 + j + 1 by omega, show (((n : Int) + 1 + (j : Int) + 1) + (k : Int)).toNat = n + 1 + j + 1 + k by omega] at c7
                      refine rp W 0 rfl rfl rfl (.no (fun q => (hP.1 q.1).2.2.2.1 ⟨by omega, c7⟩))
                    · rw [show ((n : Int) + 1 + (j : Int) + 1).toNat = n + 1 + j + 1 by omega, show (((n : Int) + 1 + (j : Int) + 1) + (k : Int)).toNat = n + 1 + j + 1 + k by omega] at c7
                      have f4 : ¬ (k = 3 ∧ ¬ (Op.bytesLess ((s.take (n + 1 + j + 1 + k)).drop (n + 1 + j + 1)) [52, 48, 48] = true ∨ (s.take (n + 1 + j + 1 + k)).drop (n + 1 + j + 1) = [52, 48, 48])) := fun q => c7 q.2
                      refine rp W 0 rfl rfl rfl (.pr ⟨fun e => ⟨hP.2 ⟨by omega, by omega, f3, f4, by omega⟩, by omega⟩, fun q => by have := (hP.1 q.1).2.2.2.2; omega⟩)
                  · have f4 : ¬ (k = 3 ∧ ¬ (Op.bytesLess ((s.take (n + 1 + j + 1 + k)).drop (n + 1 + j + 1)) [52, 48, 48] = true ∨ (s.take (n + 1 + j + 1 + k)).drop (n + 1 + j + 1) = [52, 48, 48])) := fun q => by have := q.1; omega
                    refine rp W 0 rfl rfl rfl (.pr ⟨fun e => ⟨hP.2 ⟨by omega, by omega, f3, f4, by omega⟩, by omega⟩, fun q => by have := (hP.1 q.1).2.2.2.2; omega⟩)
            · have e0 : s.drop (n + 1 + j + 1) = [] := List.drop_eq_nil_iff.2 (by omega)
              have hu : s.drop (n + 1 + j + 1) = cutP (s.drop (n + 1 + j + 1)) 45 := by rw [e0]; rfl
              have hm : False ↔ (s.drop (n + 1 + j + 1)).head? = some 45 := by rw [e0]; simp
              have kr : AFunP Tryz.prog 122 [.str s, .int .i64 ((n : Int) + 1 + (j : Int) + 1)] (· = .int .i64 (run s (n + 1 + j + 1) : Nat)) := by
                have := l11Run_ok s (n + 1 + j + 1) (by omega) (by omega)
                rwa [show ((n + 1 + j + 1 : Nat) : Int) = (n : Int) + 1 + (j : Int) + 1 by omega] at this
              have tr := run_le s (n + 1 + j + 1) (by omega)
              have hP := hq2.trans (powA_ok (a := n + 1 + j + 1) (m := False) (by omega) hu hm)
              unfold powA at hP
              refine ce W 0 rfl rfl (kr) rfl ?_
              generalize run s (n + 1 + j + 1) = k at *
              refine sp W 0 rfl rfl rfl (fun c1 => ?_) (fun c1 => ?_)
              · refine rp W 0 rfl rfl rfl (.no (fun q => (hP.1 q.1).1 (by omega)))
              refine sp W 0 rfl rfl rfl (fun c2 => ?_) (fun c2 => ?_)
              · refine rp W 0 rfl rfl rfl (.no (fun q => by have := (hP.1 q.1).2.1; omega))
              refine sp W 0 rfl rfl rfl (fun c3 => ?_) (fun c3 => ?_)
              · have c3 : s.getD (n + 1 + j + 1) 0 = 48 := by rw [show ((n : Int) + 1 + (j : Int) + 1).toNat = n + 1 + j + 1 by omega] at c3; exact (u8_eq (c := 48)).1 c3
                refine sp W 0 rfl rfl rfl (fun c4 => ?_) (fun c4 => ?_)
                · refine rp W 0 rfl rfl rfl (.no (fun q => (hP.1 q.1).2.2.1 ⟨c3, .inl (by omega)⟩))
                · have f3 : ¬ (s.getD (n + 1 + j + 1) 0 = 48 ∧ (1 < k ∨ False)) := fun q => q.2.elim (fun q => by omega) id
                  refine sp W 0 rfl rfl rfl (fun c6 => ?_) (fun c6 => ?_)
                  · refine sp W 0 rfl rfl rfl (fun c7 => ?_) (fun c7 => ?_)
                    · rw [show ((n : Int) + 1 + (j : Int) + 1).toNat = n + 1 + j + 1 by omega, show (((n : Int) + 1 + (j : Int) + 1) + (k : Int)).toNat = n + 1 + j + 1 + k by omega] at c7
                      refine rp W 0 rfl rfl rfl (.no (fun q => (hP.1 q.1).2.2.2.1 ⟨by omega, c7⟩))
                    · rw [show ((n : Int) + 1 + (j : Int) + 1).toNat = n + 1 + j + 1 by omega, show (((n : Int) + 1 + (j : Int) + 1) + (k : Int)).toNat = n + 1 + j + 1 + k by omega] at c7
                      have f4 : ¬ (k = 3 ∧ ¬ (Op.bytesLess ((s.take (n + 1 + j + 1 + k)).drop (n + 1 + j + 1)) [52, 48, 48] = true ∨ (s.take (n + 1 + j + 1 + k)).drop (n + 1 + j + 1) = [52, 48, 48])) := fun q => c7 q.2
                      refine rp W 0 rfl rfl rfl (.pr ⟨fun e => ⟨hP.2 ⟨by omega, by omega, f3, f4, by omega⟩, by omega⟩, fun q => by have := (hP.1 q.1).2.2.2.2; omega⟩)
                  · have f4 : ¬ (k = 3 ∧ ¬ (Op.bytesLess ((s.take (n + 1 + j + 1 + k)).drop (n + 1 + j + 1)) [52, 48, 48] = true ∨ (s.take (n + 1 + j + 1 + k)).drop (n + 1 + j + 1) = [52, 48, 48])) := fun q => by have := q.1; omega
                    refine rp W 0 rfl rfl rfl (.pr ⟨fun e => ⟨hP.2 ⟨by omega, by omega, f3, f4, by omega⟩, by omega⟩, fun q => by have := (hP.1 q.1).2.2.2.2; omega⟩)
              · have c3 : ¬ s.getD (n + 1 + j + 1) 0 = 48 := fun e => c3 (by rw [show ((n : Int) + 1 + (j : Int) + 1).toNat = n + 1 + j + 1 by omega]; exact (u8_eq (c := 48)).2 e)
                have f3 : ¬ (s.getD (n + 1 + j + 1) 0 = 48 ∧ (1 < k ∨ False)) := fun q => c3 q.1
                refine sp W 0 rfl rfl rfl (fun c6 => ?_) (fun c6 => ?_)
                · refine sp W 0 rfl rfl rfl (fun c7 => ?_) (fun c7 => ?_)
                  · rw [show ((n : Int) + 1 + (j : Int) + 1).toNat = n + 1 + j + 1 by omega, show (((n : Int) + 1 + (j : Int) + 1) + (k : Int)).toNat = n + 1 + j + 1 + k by omega] at c7
                    refine rp W 0 rfl rfl rfl (.no (fun q => (hP.1 q.1).2.2.2.1 ⟨by omega, c7⟩))
                  · rw [show ((n : Int) + 1 + (j : Int) + 1).toNat = n + 1 + j + 1 by omega, show (((n : Int) + 1 + (j : Int) + 1) + (k : Int)).toNat = n + 1 + j + 1 + k by omega] at c7
                    have f4 : ¬ (k = 3 ∧ ¬ (Op.bytesLess ((s.take (n + 1 + j + 1 + k)).drop (n + 1 + j + 1)) [52, 48, 48] = true ∨ (s.take (n + 1 + j + 1 + k)).drop (n + 1 + j + 1) = [52, 48, 48])) := fun q => c7 q.2
                    refine rp W 0 rfl rfl rfl (.pr ⟨fun e => ⟨hP.2 ⟨by omega, by omega, f3, f4, by omega⟩, by omega⟩, fun q => by have := (hP.1 q.1).2.2.2.2; omega⟩)
                · have f4 : ¬ (k = 3 ∧ ¬ (Op.bytesLess ((s.take (n + 1 + j + 1 + k)).drop (n + 1 + j + 1)) [52, 48, 48] = true ∨ (s.take (n + 1 + j + 1 + k)).drop (n + 1 + j + 1) = [52, 48, 48])) := fun q => by have := q.1; omega
                  refine rp W 0 rfl rfl rfl (.pr ⟨fun e => ⟨hP.2 ⟨by omega, by omega, f3, f4, by omega⟩, by omega⟩, fun q => by have := (hP.1 q.1).2.2.2.2; omega⟩)
          · rw [show ((n : Int) + 1 + (j : Int)).toNat = n + 1 + j by omega] at p4
            have hn : ¬ numE s := fun e => powE_no (by omega) (fun e => p4 ((u8_eq (c := 101)).2 e)) (hq.1 e)
            refine rp W 0 rfl rfl rfl (.pr ⟨fun e => by omega, fun e => absurd e.1 hn⟩)
        · have hn : numE s := hq.2 (powE_nil (by omega))
          refine rp W 0 rfl rfl rfl (.pr ⟨fun e => ⟨hn, by omega⟩, fun e => by omega⟩)
      · rw [show (n : Int).toNat = n by omega] at p2
        have hq : numE s ↔ powE (s.drop n) := by
          refine hq0.trans ?_
          rw [← r0, fracE_no fun e => p2 ((u8_eq (c := 46)).2 e)]
        refine sp W 0 rfl rfl rfl (fun p3 => ?_) (fun p3 => ?_)
        · refine sp W 0 rfl rfl rfl (fun p4 => ?_) (fun p4 => ?_)
          · rw [show ((n : Int)).toNat = n by omega] at p4
            have hq2 : numE s ↔ powE1 (s.drop (n + 1)) := hq.trans (powE_yes (by omega) ((u8_eq (c := 101)).1 p4))
            refine sp W 0 rfl rfl rfl (fun m1 => ?_) (fun m1 => ?_)
            · refine sp W 0 rfl rfl rfl (fun m2 => ?_) (fun m2 => ?_)
              · rw [show ((n : Int) + 1).toNat = n + 1 by omega] at m2
                have hu : s.drop (n + 1 + 1) = cutP (s.drop (n + 1)) 45 := cutP_yes (by omega) ((u8_eq (c := 45)).1 m2)
                have hm : True ↔ (s.drop (n + 1)).head? = some 45 := by rw [head_at (by omega)]; exact ⟨fun _ => (u8_eq (c := 45)).1 m2, fun _ => trivial⟩
                rw [← show ((n : Int) + 1).toNat = n + 1 by omega] at m2
                have kr : AFunP Tryz.prog 122 [.str s, .int .i64 ((n : Int) + 1 + 1)] (· = .int .i64 (run s (n + 1 + 1) : Nat)) := by
                  have := l11Run_ok s (n + 1 + 1) (by omega) (by omega)
                  rwa [show ((n + 1 + 1 : Nat) : Int) = (n : Int) + 1 + 1 by omega] at this
                have tr := run_le s (n + 1 + 1) (by omega)
                have hP := hq2.trans (powA_ok (a := n + 1 + 1) (m := True) (by omega) hu hm)
                unfold powA at hP
                refine ce W 0 rfl rfl (kr) rfl ?_
                generalize run s (n + 1 + 1) = k at *
                refine sp W 0 rfl rfl rfl (fun c1 => ?_) (fun c1 => ?_)
                · refine rp W 0 rfl rfl rfl (.no (fun q => (hP.1 q.1).1 (by omega)))
                refine sp W 0 rfl rfl rfl (fun c2 => ?_) (fun c2 => ?_)
                · refine rp W 0 rfl rfl rfl (.no (fun q => by have := (hP.1 q.1).2.1; omega))
                refine sp W 0 rfl rfl rfl (fun c3 => ?_) (fun c3 => ?_)
                · have c3 : s.getD (n + 1 + 1) 0 = 48 := by rw [show ((n : Int) + 1 + 1).toNat = n + 1 + 1 by omega] at c3; exact (u8_eq (c := 48)).1 c3
                  refine sp W 0 rfl rfl rfl (fun c4 => ?_) (fun c4 => ?_)
                  · refine rp W 0 rfl rfl rfl (.no (fun q => (hP.1 q.1).2.2.1 ⟨c3, .inl (by omega)⟩))
                  · refine sp W 0 rfl rfl rfl (fun c5 => ?_) (fun c5 => ?_)
                    · refine rp W 0 rfl rfl rfl (.no (fun q => (hP.1 q.1).2.2.1 ⟨c3, .inr trivial⟩))
                    · exact absurd m2 c5
                · have c3 : ¬ s.getD (n + 1 + 1) 0 = 48 := fun e => c3 (by rw [show ((n : Int) + 1 + 1).toNat = n + 1 + 1 by omega]; exact (u8_eq (c := 48)).2 e)
                  have f3 : ¬ (s.getD (n + 1 + 1) 0 = 48 ∧ (1 < k ∨ True)) := fun q => c3 q.1
                  refine sp W 0 rfl rfl rfl (fun c6 => ?_) (fun c6 => ?_)
                  · refine sp W 0 rfl rfl rfl (fun c7 => ?_) (fun c7 => ?_)
                    · rw [show ((n : Int) + 1 + 1).toNat = n + 1 + 1 by omega, show (((n : Int) + 1 + 1) + (k : Int)).toNat = n + 1 + 1 + k by omega] at c7
                      refine rp W 0 rfl rfl rfl (.no (fun q => (hP.1 q.1).2.2.2.1 ⟨by omega, c7⟩))
                    · rw [show ((n : Int) + 1 + 1).toNat = n + 1 + 1 by omega, show (((n : Int) + 1 + 1) + (k : Int)).toNat = n + 1 + 1 + k by omega] at c7
                      have f4 : ¬ (k = 3 ∧ ¬ (Op.bytesLess ((s.take (n + 1 + 1 + k)).drop (n + 1 + 1)) [52, 48, 48] = true ∨ (s.take (n + 1 + 1 + k)).drop (n + 1 + 1) = [52, 48, 48])) := fun q => c7 q.2
                      refine rp W 0 rfl rfl rfl (.pr ⟨fun e => ⟨hP.2 ⟨by omega, by omega, f3, f4, by omega⟩, by omega⟩, fun q => by have := (hP.1 q.1).2.2.2.2; omega⟩)
                  · have f4 : ¬ (k = 3 ∧ ¬ (Op.bytesLess ((s.take (n + 1 + 1 + k)).drop (n + 1 + 1)) [52, 48, 48] = true ∨ (s.take (n + 1 + 1 + k)).drop (n + 1 + 1) = [52, 48, 48])) := fun q => by have := q.1; omega
                    refine rp W 0 rfl rfl rfl (.pr ⟨fun e => ⟨hP.2 ⟨by omega, by omega, f3, f4, by omega⟩, by omega⟩, fun q => by have := (hP.1 q.1).2.2.2.2; omega⟩)
              · rw [show ((n : Int) + 1).toNat = n + 1 by omega] at m2
                have hu : s.drop (n + 1) = cutP (s.drop (n + 1)) 45 := cutP_no (by omega) fun e => m2 ((u8_eq (c := 45)).2 e)
                have hm : False ↔ (s.drop (n + 1)).head? = some 45 := by rw [head_at (by omega)]; exact ⟨False.elim, fun e => m2 ((u8_eq (c := 45)).2 e)⟩
                rw [← show ((n : Int) + 1).toNat = n + 1 by omega] at m2
                have kr : AFunP Tryz.prog 122 [.str s, .int .i64 ((n : Int) + 1)] (· = .int .i64 (run s (n + 1) : Nat)) := by
                  have := l11Run_ok s (n + 1) (by omega) (by omega)
                  rwa [show ((n + 1 : Nat) : Int) = (n : Int) + 1 by omega] at this
                have tr := run_le s (n + 1) (by omega)
                have hP := hq2.trans (powA_ok (a := n + 1) (m := False) (by omega) hu hm)
                unfold powA at hP
                refine ce W 0 rfl rfl (kr) rfl ?_
                generalize run s (n + 1) = k at *
                refine sp W 0 rfl rfl rfl (fun c1 => ?_) (fun c1 => ?_)
                · refine rp W 0 rfl rfl rfl (.no (fun q => (hP.1 q.1).1 (by omega)))
                refine sp W 0 rfl rfl rfl (fun c2 => ?_) (fun c2 => ?_)
                · refine rp W 0 rfl rfl rfl (.no (fun q => by have := (hP.1 q.1).2.1; omega))
                refine sp W 0 rfl rfl rfl (fun c3 => ?_) (fun c3 => ?_)
                · have c3 : s.getD (n + 1) 0 = 48 := by rw [show ((n : Int) + 1).toNat = n + 1 by omega] at c3; exact (u8_eq (c := 48)).1 c3
                  refine sp W 0 rfl rfl rfl (fun c4 => ?_) (fun c4 => ?_)
                  · refine rp W 0 rfl rfl rfl (.no (fun q => (hP.1 q.1).2.2.1 ⟨c3, .inl (by omega)⟩))
                  · refine sp W 0 rfl rfl rfl (fun c5 => ?_) (fun c5 => ?_)
                    · exact absurd c5 m2
                    · have f3 : ¬ (s.getD (n + 1) 0 = 48 ∧ (1 < k ∨ False)) := fun q => q.2.elim (fun q => by omega) id
                      refine sp W 0 rfl rfl rfl (fun c6 => ?_) (fun c6 => ?_)
                      · refine sp W 0 rfl rfl rfl (fun c7 => ?_) (fun c7 => ?_)
                        · rw [show ((n : Int) + 1).toNat = n + 1 by omega, show (((n : Int) + 1) + (k : Int)).toNat = n + 1 + k by omega] at c7
                          refine rp W 0 rfl rfl rfl (.no (fun q => (hP.1 q.1).2.2.2.1 ⟨by omega, c7⟩))
                        · rw [show ((n : Int) + 1).toNat = n + 1 by omega, show (((n : Int) + 1) + (k : Int)).toNat = n + 1 + k by omega] at c7
                          have f4 : ¬ (k = 3 ∧ ¬ (Op.bytesLess ((s.take (n + 1 + k)).drop (n + 1)) [52, 48, 48] = true ∨ (s.take (n + 1 + k)).drop (n + 1) = [52, 48, 48])) := fun q => c7 q.2
                          refine rp W 0 rfl rfl rfl (.pr ⟨fun e => ⟨hP.2 ⟨by omega, by omega, f3, f4, by omega⟩, by omega⟩, fun q => by have := (hP.1 q.1).2.2.2.2; omega⟩)
                      · have f4 : ¬ (k = 3 ∧ ¬ (Op.bytesLess ((s.take (n + 1 + k)).drop (n + 1)) [52, 48, 48] = true ∨ (s.take (n + 1 + k)).drop (n + 1) = [52, 48, 48])) := fun q => by have := q.1; omega
                        refine rp W 0 rfl rfl rfl (.pr ⟨fun e => ⟨hP.2 ⟨by omega, by omega, f3, f4, by omega⟩, by omega⟩, fun q => by have := (hP.1 q.1).2.2.2.2; omega⟩)
                · have c3 : ¬ s.getD (n + 1) 0 = 48 := fun e => c3 (by rw [show ((n : Int) + 1).toNat = n + 1 by omega]; exact (u8_eq (c := 48)).2 e)
                  have f3 : ¬ (s.getD (n + 1) 0 = 48 ∧ (1 < k ∨ False)) := fun q => c3 q.1
                  refine sp W 0 rfl rfl rfl (fun c6 => ?_) (fun c6 => ?_)
                  · refine sp W 0 rfl rfl rfl (fun c7 => ?_) (fun c7 => ?_)
                    · rw [show ((n : Int) + 1).toNat = n + 1 by omega, show (((n : Int) + 1) + (k : Int)).toNat = n + 1 + k by omega] at c7
                      refine rp W 0 rfl rfl rfl (.no (fun q => (hP.1 q.1).2.2.2.1 ⟨by omega, c7⟩))
                    · rw [show ((n : Int) + 1).toNat = n + 1 by omega, show (((n : Int) + 1) + (k : Int)).toNat = n + 1 + k by omega] at c7
                      have f4 : ¬ (k = 3 ∧ ¬ (Op.bytesLess ((s.take (n + 1 + k)).drop (n + 1)) [52, 48, 48] = true ∨ (s.take (n + 1 + k)).drop (n + 1) = [52, 48, 48])) := fun q => c7 q.2
                      refine rp W 0 rfl rfl rfl (.pr ⟨fun e => ⟨hP.2 ⟨by omega, by omega, f3, f4, by omega⟩, by omega⟩, fun q => by have := (hP.1 q.1).2.2.2.2; omega⟩)
                  · have f4 : ¬ (k = 3 ∧ ¬ (Op.bytesLess ((s.take (n + 1 + k)).drop (n + 1)) [52, 48, 48] = true ∨ (s.take (n + 1 + k)).drop (n + 1) = [52, 48, 48])) := fun q => by have := q.1; omega
                    refine rp W 0 rfl rfl rfl (.pr ⟨fun e => ⟨hP.2 ⟨by omega, by omega, f3, f4, by omega⟩, by omega⟩, fun q => by have := (hP.1 q.1).2.2.2.2; omega⟩)
            · have e0 : s.drop (n + 1) = [] := List.drop_eq_nil_iff.2 (by omega)
              have hu : s.drop (n + 1) = cutP (s.drop (n + 1)) 45 := by rw [e0]; rfl
              have hm : False ↔ (s.drop (n + 1)).head? = some 45 := by rw [e0]; simp
              have kr : AFunP Tryz.prog 122 [.str s, .int .i64 ((n : Int) + 1)] (· = .int .i64 (run s (n + 1) : Nat)) := by
                have := l11Run_ok s (n + 1) (by omega) (by omega)
                rwa [show ((n + 1 : Nat) : Int) = (n : Int) + 1 by omega] at this
              have tr := run_le s (n + 1) (by omega)
              have hP := hq2.trans (powA_ok (a := n + 1) (m := False) (by omega) hu hm)
              unfold powA at hP
              refine ce W 0 rfl rfl (kr) rfl ?_
              generalize run s (n + 1) = k at *
              refine sp W 0 rfl rfl rfl (fun c1 => ?_) (fun c1 => ?_)
              · refine rp W 0 rfl rfl rfl (.no (fun q => (hP.1 q.1).1 (by omega)))
              refine sp W 0 rfl rfl rfl (fun c2 => ?_) (fun c2 => ?_)
              · refine rp W 0 rfl rfl rfl (.no (fun q => by have := (hP.1 q.1).2.1; omega))
              refine sp W 0 rfl rfl rfl (fun c3 => ?_) (fun c3 => ?_)
              · have c3 : s.getD (n + 1) 0 = 48 := by rw [show ((n : Int) + 1).toNat = n + 1 by omega] at c3; exact (u8_eq (c := 48)).1 c3
                refine sp W 0 rfl rfl rfl (fun c4 => ?_) (fun c4 => ?_)
                · refine rp W 0 rfl rfl rfl (.no (fun q => (hP.1 q.1).2.2.1 ⟨c3, .inl (by omega)⟩))
                · have f3 : ¬ (s.getD (n + 1) 0 = 48 ∧ (1 < k ∨ False)) := fun q => q.2.elim (fun q => by omega) id
                  refine sp W 0 rfl rfl rfl (fun c6 => ?_) (fun c6 => ?_)
                  · refine sp W 0 rfl rfl rfl (fun c7 => ?_) (fun c7 => ?_)
                    · rw [show ((n : Int) + 1).toNat = n + 1 by omega, show (((n : Int) + 1) + (k : Int)).toNat = n + 1 + k by omega] at c7
                      refine rp W 0 rfl rfl rfl (.no (fun q => (hP.1 q.1).2.2.2.1 ⟨by omega, c7⟩))
                    · rw [show ((n : Int) + 1).toNat = n + 1 by omega, show (((n : Int) + 1) + (k : Int)).toNat = n + 1 + k by omega] at c7
                      have f4 : ¬ (k = 3 ∧ ¬ (Op.bytesLess ((s.take (n + 1 + k)).drop (n + 1)) [52, 48, 48] = true ∨ (s.take (n + 1 + k)).drop (n + 1) = [52, 48, 48])) := fun q => c7 q.2
                      refine rp W 0 rfl rfl rfl (.pr ⟨fun e => ⟨hP.2 ⟨by omega, by omega, f3, f4, by omega⟩, by omega⟩, fun q => by have := (hP.1 q.1).2.2.2.2; omega⟩)
                  · have f4 : ¬ (k = 3 ∧ ¬ (Op.bytesLess ((s.take (n + 1 + k)).drop (n + 1)) [52, 48, 48] = true ∨ (s.take (n + 1 + k)).drop (n + 1) = [52, 48, 48])) := fun q => by have := q.1; omega
                    refine rp W 0 rfl rfl rfl (.pr ⟨fun e => ⟨hP.2 ⟨by omega, by omega, f3, f4, by omega⟩, by omega⟩, fun q => by have := (hP.1 q.1).2.2.2.2; omega⟩)
              · have c3 : ¬ s.getD (n + 1) 0 = 48 := fun e => c3 (by rw [show ((n : Int) + 1).toNat = n + 1 by omega]; exact (u8_eq (c := 48)).2 e)
                have f3 : ¬ (s.getD (n + 1) 0 = 48 ∧ (1 < k ∨ False)) := fun q => c3 q.1
                refine sp W 0 rfl rfl rfl (fun c6 => ?_) (fun c6 => ?_)
                · refine sp W 0 rfl rfl rfl (fun c7 => ?_) (fun c7 => ?_)
                  · rw [show ((n : Int) + 1).toNat = n + 1 by omega, show (((n : Int) + 1) + (k : Int)).toNat = n + 1 + k by omega] at c7
                    refine rp W 0 rfl rfl rfl (.no (fun q => (hP.1 q.1).2.2.2.1 ⟨by omega, c7⟩))
                  · rw [show ((n : Int) + 1).toNat = n + 1 by omega, show (((n : Int) + 1) + (k : Int)).toNat = n + 1 + k by omega] at c7
                    have f4 : ¬ (k = 3 ∧ ¬ (Op.bytesLess ((s.take (n + 1 + k)).drop (n + 1)) [52, 48, 48] = true ∨ (s.take (n + 1 + k)).drop (n + 1) = [52, 48, 48])) := fun q => c7 q.2
                    refine rp W 0 rfl rfl rfl (.pr ⟨fun e => ⟨hP.2 ⟨by omega, by omega, f3, f4, by omega⟩, by omega⟩, fun q => by have := (hP.1 q.1).2.2.2.2; omega⟩)
                · have f4 : ¬ (k = 3 ∧ ¬ (Op.bytesLess ((s.take (n + 1 + k)).drop (n + 1)) [52, 48, 48] = true ∨ (s.take (n + 1 + k)).drop (n + 1) = [52, 48, 48])) := fun q => by have := q.1; omega
                  refine rp W 0 rfl rfl rfl (.pr ⟨fun e => ⟨hP.2 ⟨by omega, by omega, f3, f4, by omega⟩, by omega⟩, fun q => by have := (hP.1 q.1).2.2.2.2; omega⟩)
          · rw [show ((n : Int)).toNat = n by omega] at p4
            have hn : ¬ numE s := fun e => powE_no (by omega) (fun e => p4 ((u8_eq (c := 101)).2 e)) (hq.1 e)
            refine rp W 0 rfl rfl rfl (.pr ⟨fun e => by omega, fun e => absurd e.1 hn⟩)
        · have hn : numE s := hq.2 (powE_nil (by omega))
          refine rp W 0 rfl rfl rfl (.pr ⟨fun e => ⟨hn, by omega⟩, fun e => by omega⟩)
    · have hq : numE s ↔ powE (s.drop n) := by
        refine hq0.trans ?_
        rw [← r0, show s.drop n = [] from List.drop_eq_nil_iff.2 (by omega)]
        simp [fracE]
      refine sp W 0 rfl rfl rfl (fun p3 => ?_) (fun p3 => ?_)
      · refine sp W 0 rfl rfl rfl (fun p4 => ?_) (fun p4 => ?_)
        · rw [show ((n : Int)).toNat = n by omega] at p4
          have hq2 : numE s ↔ powE1 (s.drop (n + 1)) := hq.trans (powE_yes (by omega) ((u8_eq (c := 101)).1 p4))
          refine sp W 0 rfl rfl rfl (fun m1 => ?_) (fun m1 => ?_)
          · refine sp W 0 rfl rfl rfl (fun m2 => ?_) (fun m2 => ?_)
            · rw [show ((n : Int) + 1).toNat = n + 1 by omega] at m2
              have hu : s.drop (n + 1 + 1) = cutP (s.drop (n + 1)) 45 := cutP_yes (by omega) ((u8_eq (c := 45)).1 m2)
              have hm : True ↔ (s.drop (n + 1)).head? = some 45 := by rw [head_at (by omega)]; exact ⟨fun _ => (u8_eq (c := 45)).1 m2, fun _ => trivial⟩
              rw [← show ((n : Int) + 1).toNat = n + 1 by omega] at m2
              have kr : AFunP Tryz.prog 122 [.str s, .int .i64 ((n : Int) + 1 + 1)] (· = .int .i64 (run s (n + 1 + 1) : Nat)) := by
                have := l11Run_ok s (n + 1 + 1) (by omega) (by omega)
                rwa [show ((n + 1 + 1 : Nat) : Int) = (n : Int) + 1 + 1 by omega] at this
              have tr := run_le s (n + 1 + 1) (by omega)
              have hP := hq2.trans (powA_ok (a := n + 1 + 1) (m := True) (by omega) hu hm)
              unfold powA at hP
              refine ce W 0 rfl rfl (kr) rfl ?_
              generalize run s (n + 1 + 1) = k at *
              refine sp W 0 rfl rfl rfl (fun c1 => ?_) (fun c1 => ?_)
              · refine rp W 0 rfl rfl rfl (.no (fun q => (hP.1 q.1).1 (by omega)))
              refine sp W 0 rfl rfl rfl (fun c2 => ?_) (fun c2 => ?_)
              · refine rp W 0 rfl rfl rfl (.no (fun q => by have := (hP.1 q.1).2.1; omega))
              refine sp W 0 rfl rfl rfl (fun c3 => ?_) (fun c3 => ?_)
              · have c3 : s.getD (n + 1 + 1) 0 = 48 := by rw [show ((n : Int) + 1 + 1).toNat = n + 1 + 1 by omega] at c3; exact (u8_eq (c := 48)).1 c3
                refine sp W 0 rfl rfl rfl (fun c4 => ?_) (fun c4 => ?_)
                · refine rp W 0 rfl rfl rfl (.no (fun q => (hP.1 q.1).2.2.1 ⟨c3, .inl (by omega)⟩))
                · refine sp W 0 rfl rfl rfl (fun c5 => ?_) (fun c5 => ?_)
                  · refine rp W 0 rfl rfl rfl (.no (fun q => (hP.1 q.1).2.2.1 ⟨c3, .inr trivial⟩))
                  · exact absurd m2 c5
              · have c3 : ¬ s.getD (n + 1 + 1) 0 = 48 := fun e => c3 (by rw [show ((n : Int) + 1 + 1).toNat = n + 1 + 1 by omega]; exact (u8_eq (c := 48)).2 e)
                have f3 : ¬ (s.getD (n + 1 + 1) 0 = 48 ∧ (1 < k ∨ True)) := fun q => c3 q.1
                refine sp W 0 rfl rfl rfl (fun c6 => ?_) (fun c6 => ?_)
                · refine sp W 0 rfl rfl rfl (fun c7 => ?_) (fun c7 => ?_)
                  · rw [show ((n : Int) + 1 + 1).toNat = n + 1 + 1 by omega, show (((n : Int) + 1 + 1) + (k : Int)).toNat = n + 1 + 1 + k by omega] at c7
                    refine rp W 0 rfl rfl rfl (.no (fun q => (hP.1 q.1).2.2.2.1 ⟨by omega, c7⟩))
                  · rw [show ((n : Int) + 1 + 1).toNat = n + 1 + 1 by omega, show (((n : Int) + 1 + 1) + (k : Int)).toNat = n + 1 + 1 + k by omega] at c7
                    have f4 : ¬ (k = 3 ∧ ¬ (Op.bytesLess ((s.take (n + 1 + 1 + k)).drop (n + 1 + 1)) [52, 48, 48] = true ∨ (s.take (n + 1 + 1 + k)).drop (n + 1 + 1) = [52, 48, 48])) := fun q => c7 q.2
                    refine rp W 0 rfl rfl rfl (.pr ⟨fun e => ⟨hP.2 ⟨by omega, by omega, f3, f4, by omega⟩, by omega⟩, fun q => by have := (hP.1 q.1).2.2.2.2; omega⟩)
                · have f4 : ¬ (k = 3 ∧ ¬ (Op.bytesLess ((s.take (n + 1 + 1 + k)).drop (n + 1 + 1)) [52, 48, 48] = true ∨ (s.take (n + 1 + 1 + k)).drop (n + 1 + 1) = [52, 48, 48])) := fun q => by have := q.1; omega
                  refine rp W 0 rfl rfl rfl (.pr ⟨fun e => ⟨hP.2 ⟨by omega, by omega, f3, f4, by omega⟩, by omega⟩, fun q => by have := (hP.1 q.1).2.2.2.2; omega⟩)
            · rw [show ((n : Int) + 1).toNat = n + 1 by omega] at m2
              have hu : s.drop (n + 1) = cutP (s.drop (n + 1)) 45 := cutP_no (by omega) fun e => m2 ((u8_eq (c := 45)).2 e)
              have hm : False ↔ (s.drop (n + 1)).head? = some 45 := by rw [head_at (by omega)]; exact ⟨False.elim, fun e => m2 ((u8_eq (c := 45)).2 e)⟩
              rw [← show ((n : Int) + 1).toNat = n + 1 by omega] at m2
              have kr : AFunP Tryz.prog 122 [.str s, .int .i64 ((n : Int) + 1)] (· = .int .i64 (run s (n + 1) : Nat)) := by
                have := l11Run_ok s (n + 1) (by omega) (by omega)
                rwa [show ((n + 1 : Nat) : Int) = (n : Int) + 1 by omega] at this
              have tr := run_le s (n + 1) (by omega)
              have hP := hq2.trans (powA_ok (a := n + 1) (m := False) (by omega) hu hm)
              unfold powA at hP
              refine ce W 0 rfl rfl (kr) rfl ?_
              generalize run s (n + 1) = k at *
              refine sp W 0 rfl rfl rfl (fun c1 => ?_) (fun c1 => ?_)
              · refine rp W 0 rfl rfl rfl (.no (fun q => (hP.1 q.1).1 (by omega)))
              refine sp W 0 rfl rfl rfl (fun c2 => ?_) (fun c2 => ?_)
              · refine rp W 0 rfl rfl rfl (.no (fun q => by have := (hP.1 q.1).2.1; omega))
              refine sp W 0 rfl rfl rfl (fun c3 => ?_) (fun c3 => ?_)
              · have c3 : s.getD (n + 1) 0 = 48 := by rw [show ((n : Int) + 1).toNat = n + 1 by omega] at c3; exact (u8_eq (c := 48)).1 c3
                refine sp W 0 rfl rfl rfl (fun c4 => ?_) (fun c4 => ?_)
                · refine rp W 0 rfl rfl rfl (.no (fun q => (hP.1 q.1).2.2.1 ⟨c3, .inl (by omega)⟩))
                · refine sp W 0 rfl rfl rfl (fun c5 => ?_) (fun c5 => ?_)
                  · exact absurd c5 m2
                  · have f3 : ¬ (s.getD (n + 1) 0 = 48 ∧ (1 < k ∨ False)) := fun q => q.2.elim (fun q => by omega) id
                    refine sp W 0 rfl rfl rfl (fun c6 => ?_) (fun c6 => ?_)
                    · refine sp W 0 rfl rfl rfl (fun c7 => ?_) (fun c7 => ?_)
                      · rw [show ((n : Int) + 1).toNat = n + 1 by omega, show (((n : Int) + 1) + (k : Int)).toNat = n + 1 + k by omega] at c7
                        refine rp W 0 rfl rfl rfl (.no (fun q => (hP.1 q.1).2.2.2.1 ⟨by omega, c7⟩))
                      · rw [show ((n : Int) + 1).toNat = n + 1 by omega, show (((n : Int) + 1) + (k : Int)).toNat = n + 1 + k by omega] at c7
                        have f4 : ¬ (k = 3 ∧ ¬ (Op.bytesLess ((s.take (n + 1 + k)).drop (n + 1)) [52, 48, 48] = true ∨ (s.take (n + 1 + k)).drop (n + 1) = [52, 48, 48])) := fun q => c7 q.2
                        refine rp W 0 rfl rfl rfl (.pr ⟨fun e => ⟨hP.2 ⟨by omega, by omega, f3, f4, by omega⟩, by omega⟩, fun q => by have := (hP.1 q.1).2.2.2.2; omega⟩)
                    · have f4 : ¬ (k = 3 ∧ ¬ (Op.bytesLess ((s.take (n + 1 + k)).drop (n + 1)) [52, 48, 48] = true ∨ (s.take (n + 1 + k)).drop (n + 1) = [52, 48, 48])) := fun q => by have := q.1; omega
                      refine rp W 0 rfl rfl rfl (.pr ⟨fun e => ⟨hP.2 ⟨by omega, by omega, f3, f4, by omega⟩, by omega⟩, fun q => by have := (hP.1 q.1).2.2.2.2; omega⟩)
              · have c3 : ¬ s.getD (n + 1) 0 = 48 := fun e => c3 (by rw [show ((n : Int) + 1).toNat = n + 1 by omega]; exact (u8_eq (c := 48)).2 e)
                have f3 : ¬ (s.getD (n + 1) 0 = 48 ∧ (1 < k ∨ False)) := fun q => c3 q.1
                refine sp W 0 rfl rfl rfl (fun c6 => ?_) (fun c6 => ?_)
                · refine sp W 0 rfl rfl rfl (fun c7 => ?_) (fun c7 => ?_)
                  · rw [show ((n : Int) + 1).toNat = n + 1 by omega, show (((n : Int) + 1) + (k : Int)).toNat = n + 1 + k by omega] at c7
                    refine rp W 0 rfl rfl rfl (.no (fun q => (hP.1 q.1).2.2.2.1 ⟨by omega, c7⟩))
                  · rw [show ((n : Int) + 1).toNat = n + 1 by omega, show (((n : Int) + 1) + (k : Int)).toNat = n + 1 + k by omega] at c7
                    have f4 : ¬ (k = 3 ∧ ¬ (Op.bytesLess ((s.take (n + 1 + k)).drop (n + 1)) [52, 48, 48] = true ∨ (s.take (n + 1 + k)).drop (n + 1) = [52, 48, 48])) := fun q => c7 q.2
                    refine rp W 0 rfl rfl rfl (.pr ⟨fun e => ⟨hP.2 ⟨by omega, by omega, f3, f4, by omega⟩, by omega⟩, fun q => by have := (hP.1 q.1).2.2.2.2; omega⟩)
                · have f4 : ¬ (k = 3 ∧ ¬ (Op.bytesLess ((s.take (n + 1 + k)).drop (n + 1)) [52, 48, 48] = true ∨ (s.take (n + 1 + k)).drop (n + 1) = [52, 48, 48])) := fun q => by have := q.1; omega
                  refine rp W 0 rfl rfl rfl (.pr ⟨fun e => ⟨hP.2 ⟨by omega, by omega, f3, f4, by omega⟩, by omega⟩, fun q => by have := (hP.1 q.1).2.2.2.2; omega⟩)
          · have e0 : s.drop (n + 1) = [] := List.drop_eq_nil_iff.2 (by omega)
            have hu : s.drop (n + 1) = cutP (s.drop (n + 1)) 45 := by rw [e0]; rfl
            have hm : False ↔ (s.drop (n + 1)).head? = some 45 := by rw [e0]; simp
            have kr : AFunP Tryz.prog 122 [.str s, .int .i64 ((n : Int) + 1)] (· = .int .i64 (run s (n + 1) : Nat)) := by
              have := l11Run_ok s (n + 1) (by omega) (by omega)
              rwa [show ((n + 1 : Nat) : Int) = (n : Int) + 1 by omega] at this
            have tr := run_le s (n + 1) (by omega)
            have hP := hq2.trans (powA_ok (a := n + 1) (m := False) (by omega) hu hm)
            unfold powA at hP
            refine ce W 0 rfl rfl (kr) rfl ?_
            generalize run s (n + 1) = k at *
            refine sp W 0 rfl rfl rfl (fun c1 => ?_) (fun c1 => ?_)
            · refine rp W 0 rfl rfl rfl (.no (fun q => (hP.1 q.1).1 (by omega)))
            refine sp W 0 rfl rfl rfl (fun c2 => ?_) (fun c2 => ?_)
            · refine rp W 0 rfl rfl rfl (.no (fun q => by have := (hP.1 q.1).2.1; omega))
            refine sp W 0 rfl rfl rfl (fun c3 => ?_) (fun c3 => ?_)
            · have c3 : s.getD (n + 1) 0 = 48 := by rw [show ((n : Int) + 1).toNat = n + 1 by omega] at c3; exact (u8_eq (c := 48)).1 c3
              refine sp W 0 rfl rfl rfl (fun c4 => ?_) (fun c4 => ?_)
              · refine rp W 0 rfl rfl rfl (.no (fun q => (hP.1 q.1).2.2.1 ⟨c3, .inl (by omega)⟩))
              · have f3 : ¬ (s.getD (n + 1) 0 = 48 ∧ (1 < k ∨ False)) := fun q => q.2.elim (fun q => by omega) id
                refine sp W 0 rfl rfl rfl (fun c6 => ?_) (fun c6 => ?_)
                · refine sp W 0 rfl rfl rfl (fun c7 => ?_) (fun c7 => ?_)
                  · rw [show ((n : Int) + 1).toNat = n + 1 by omega, show (((n : Int) + 1) + (k : Int)).toNat = n + 1 + k by omega] at c7
                    refine rp W 0 rfl rfl rfl (.no (fun q => (hP.1 q.1).2.2.2.1 ⟨by omega, c7⟩))
                  · rw [show ((n : Int) + 1).toNat = n + 1 by omega, show (((n : Int) + 1) + (k : Int)).toNat = n + 1 + k by omega] at c7
                    have f4 : ¬ (k = 3 ∧ ¬ (Op.bytesLess ((s.take (n + 1 + k)).drop (n + 1)) [52, 48, 48] = true ∨ (s.take (n + 1 + k)).drop (n + 1) = [52, 48, 48])) := fun q => c7 q.2
                    refine rp W 0 rfl rfl rfl (.pr ⟨fun e => ⟨hP.2 ⟨by omega, by omega, f3, f4, by omega⟩, by omega⟩, fun q => by have := (hP.1 q.1).2.2.2.2; omega⟩)
                · have f4 : ¬ (k = 3 ∧ ¬ (Op.bytesLess ((s.take (n + 1 + k)).drop (n + 1)) [52, 48, 48] = true ∨ (s.take (n + 1 + k)).drop (n + 1) = [52, 48, 48])) := fun q => by have := q.1; omega
                  refine rp W 0 rfl rfl rfl (.pr ⟨fun e => ⟨hP.2 ⟨by omega, by omega, f3, f4, by omega⟩, by omega⟩, fun q => by have := (hP.1 q.1).2.2.2.2; omega⟩)
            · have c3 : ¬ s.getD (n + 1) 0 = 48 := fun e => c3 (by rw [show ((n : Int) + 1).toNat = n + 1 by omega]; exact (u8_eq (c := 48)).2 e)
              have f3 : ¬ (s.getD (n + 1) 0 = 48 ∧ (1 < k ∨ False)) := fun q => c3 q.1
              refine sp W 0 rfl rfl rfl (fun c6 => ?_) (fun c6 => ?_)
              · refine sp W 0 rfl rfl rfl (fun c7 => ?_) (fun c7 => ?_)
                · rw [show ((n : Int) + 1).toNat = n + 1 by omega, show (((n : Int) + 1) + (k : Int)).toNat = n + 1 + k by omega] at c7
                  refine rp W 0 rfl rfl rfl (.no (fun q => (hP.1 q.1).2.2.2.1 ⟨by omega, c7⟩))
                · rw [show ((n : Int) + 1).toNat = n + 1 by omega, show (((n : Int) + 1) + (k : Int)).toNat = n + 1 + k by omega] at c7
                  have f4 : ¬ (k = 3 ∧ ¬ (Op.bytesLess ((s.take (n + 1 + k)).drop (n + 1)) [52, 48, 48] = true ∨ (s.take (n + 1 + k)).drop (n + 1) = [52, 48, 48])) := fun q => c7 q.2
                  refine rp W 0 rfl rfl rfl (.pr ⟨fun e => ⟨hP.2 ⟨by omega, by omega, f3, f4, by omega⟩, by omega⟩, fun q => by have := (hP.1 q.1).2.2.2.2; omega⟩)
              · have f4 : ¬ (k = 3 ∧ ¬ (Op.bytesLess ((s.take (n + 1 + k)).drop (n + 1)) [52, 48, 48] = true ∨ (s.take (n + 1 + k)).drop (n + 1) = [52, 48, 48])) := fun q => by have := q.1; omega
                refine rp W 0 rfl rfl rfl (.pr ⟨fun e => ⟨hP.2 ⟨by omega, by omega, f3, f4, by omega⟩, by omega⟩, fun q => by have := (hP.1 q.1).2.2.2.2; omega⟩)
        · rw [show ((n : Int)).toNat = n by omega] at p4
          have hn : ¬ numE s := fun e => powE_no (by omega) (fun e => p4 ((u8_eq (c := 101)).2 e)) (hq.1 e)
          refine rp W 0 rfl rfl rfl (.pr ⟨fun e => by omega, fun e => absurd e.1 hn⟩)
      · have hn : numE s := hq.2 (powE_nil (by omega))
        refine rp W 0 rfl rfl rfl (.pr ⟨fun e => ⟨hn, by omega⟩, fun e => by omega⟩)
end Pf
/- How many parts a node has -/
namespace Pf
open Go Go.Proofs
open Classical in
/-- How many parts a node has; -1: it is none. -/
noncomputable def partsZ (k n : Int) (s : List UInt8) : Int :=
  if k = 1 then (if n = 0 ∧ litP s ∧ s.length ≤ 60 then 0 else -1)
  else if k = 2 then (if n = 0 ∧ wordP s ∧ ¬ s ∈ ownW then 0 else -1)
  else if k = 3 ∨ k = 9 ∨ k = 10 then (if n = 0 ∧ s = [] then 1 else -1)
  else if k = 4 ∨ k = 5 ∨ k = 6 ∨ k = 7 ∨ k = 11 ∨ k = 12 then (if n = 0 ∧ s = [] then 2 else -1)
  else if k = 8 then (if 0 ≤ n ∧ n ≤ 8 ∧ s = [] then 1 else -1)
  else if k = 13 then (if 1 ≤ n ∧ n ≤ 6 ∧ wordP s ∧ ¬ s ∈ ownW then n else -1)
  else -1
theorem l12Args_ok (k n : Int) (s : List UInt8) (hl : s.length ≤ 281474976710656) : AFunP Tryz.prog 78 [.agg [.int .i64 k, .int .i64 n, .str s]] (· = .int .i64 (partsZ k n s)) := by
  have k1 := specLangNumOk_ok s hl
  have k2 := specLangNameOk_ok s (by omega)
  refine afun_of Tryz.func78 Tryz.call78 rfl Tryz.ntmps78 rfl ?_
  have W : Walk Tryz.prog TT 78 _ := Walk.of TT_ok Tryz.func78 Tryz.results78
  (repeat' (first | (refine sp W 0 rfl rfl rfl (fun _ => ?_) (fun _ => ?_)) | (refine ce W 0 rfl rfl (k1) rfl ?_) | (refine ce W 0 rfl rfl (k2) rfl ?_))) <;> (first | exact rp W 0 rfl rfl rfl (.int (by clear k1 k2; simp_all [partsZ] <;> intros <;> exfalso <;> omega)))
theorem parts_ok (k n : Int) (s : List UInt8) (hl : s.length ≤ 281474976710656) : AFunP Tryz.prog 80 [.agg [.int .i64 k, .int .i64 n, .str s]] (· = .int .i64 (partsZ k n s)) := by
  have k1 := implLangNumOk_ok s hl
  have k2 := langNameOk_ok s (by omega)
  have k3 := in_ok n 0 8
  have k4 := in_ok n 1 6
  refine afun_of Tryz.func80 Tryz.call80 rfl Tryz.ntmps80 rfl ?_
  have W : Walk Tryz.prog TT 80 _ := Walk.of TT_ok Tryz.func80 Tryz.results80
  (repeat' (first | (refine sp W 0 rfl rfl rfl (fun _ => ?_) (fun _ => ?_)) | (refine ce W 0 rfl rfl (k1) rfl ?_) | (refine ce W 0 rfl rfl (k2) rfl ?_) | (refine ce W 0 rfl rfl (k3) rfl ?_) | (refine ce W 0 rfl rfl (k4) rfl ?_))) <;> (first | exact rp W 0 rfl rfl rfl (.int (by clear k1 k2 k3 k4; simp_all [partsZ] <;> intros <;> exfalso <;> omega)))

end Pf
/- The law of TermOk -/
namespace Pf
open Go Go.Proofs
/-- A node of a term, and terms. -/
abbrev Nd := Int × Int × List UInt8
def nodeV (x : Nd) : AV := .agg [.int .i64 x.1, .int .i64 x.2.1, .str x.2.2]
def nodeR (l : List Nd) (i : Nat) : List AV := [.int .i64 (l.getD i (0, 0, [])).1, .int .i64 (l.getD i (0, 0, [])).2.1, .str (l.getD i (0, 0, [])).2.2]
abbrev termV (l : List Nd) : AV := .agg [.fz l.length (nodeR l)]
noncomputable def pz (x : Nd) : Int := partsZ x.1 x.2.1 x.2.2
/-- How deep the stack is behind the first i nodes; none: a node found too few parts. -/
noncomputable def dep (l : List Nd) : Nat → Option Int
  | 0 => some 0
  | i + 1 => match dep l i with
    | none => none
    | some d => if pz (l.getD i (0, 0, [])) < 0 ∨ d < pz (l.getD i (0, 0, [])) then none else some (d - pz (l.getD i (0, 0, [])) + 1)
def termP (l : List Nd) : Prop := l.length ≤ 100 ∧ dep l l.length = some 1
/-- Each text is no longer than a text may be. -/
def txtOk (l : List Nd) : Prop := ∀ i, i < l.length → (l.getD i (0, 0, [])).2.2.length ≤ 281474976710656
theorem dep_rng {l : List Nd} : ∀ {i : Nat} {d : Int}, dep l i = some d → 0 ≤ d ∧ d ≤ i
  | 0, d, h => by simp only [dep, Option.some.injEq] at h; omega
  | i + 1, d, h => by
    simp only [dep] at h
    split at h
    · cases h
    · rename_i d' hd
      have := dep_rng hd
      split at h
      · cases h
      · cases h
        omega
theorem dep_none {l : List Nd} {i : Nat} (h : dep l i = none) : ∀ {j : Nat}, i ≤ j → dep l j = none := by
  intro j hj
  induction j with
  | zero => rw [show i = 0 by omega] at h; exact h
  | succ j ih =>
    rcases (by omega : i = j + 1 ∨ i ≤ j) with rfl | h2
    · exact h
    · simp only [dep, ih h2]
theorem specTermOk_ok (l : List Nd) (hx : txtOk l) (hl : l.length ≤ 1048576) : AFunP Tryz.prog 43 [termV l] (· = .pr (termP l)) := by
  refine afun_of Tryz.func43 Tryz.call43 rfl Tryz.ntmps43 rfl ?_
  have W : Walk Tryz.prog TT 43 _ := Walk.of TT_ok Tryz.func43 Tryz.results43
  refine sp W 0 rfl rfl rfl (fun h1 => ?_) (fun h1 => ?_)
  · refine rp W 0 rfl rfl rfl (.no (fun k => by have := k.1; omega))
  refine lp W 0 (σ := Nat × Int) (fun s => [(1, .ptr 0 0 0 0), (3, .int .i64 s.2), (4, .int .i64 s.1)]) (fun _ => [.lst 0 [[.fz l.length (nodeR l)]]]) (fun s => l.length - s.1) (fun s => s.1 ≤ l.length ∧ dep l s.1 = some s.2) (0, 0) [1, 3, 4] rfl rfl rfl ⟨Nat.zero_le _, rfl⟩ ?_
  rintro ⟨i, d⟩ ⟨hi, he⟩ ih
  dsimp only at hi he ih ⊢
  have hr := dep_rng he
  refine sp W 0 rfl rfl rfl (fun h2 => ?_) (fun h2 => ?_)
  · have h2 : i < l.length := by omega
    have kp := l12Args_ok (l.getD i (0, 0, [])).1 (l.getD i (0, 0, [])).2.1 (l.getD i (0, 0, [])).2.2 (hx i h2)
    have hd : dep l (i + 1) = if partsZ (l.getD i (0, 0, [])).1 (l.getD i (0, 0, [])).2.1 (l.getD i (0, 0, [])).2.2 < 0 ∨ d < partsZ (l.getD i (0, 0, [])).1 (l.getD i (0, 0, [])).2.1 (l.getD i (0, 0, [])).2.2 then none else some (d - partsZ (l.getD i (0, 0, [])).1 (l.getD i (0, 0, [])).2.1 (l.getD i (0, 0, [])).2.2 + 1) := by
      simp only [dep, he]; rfl
    refine ce W 0 rfl rfl (kp) rfl ?_
    generalize partsZ (l.getD i (0, 0, [])).1 (l.getD i (0, 0, [])).2.1 (l.getD i (0, 0, [])).2.2 = z at *
    refine sp W 0 rfl rfl rfl (fun a1 => ?_) (fun a1 => ?_)
    · have hn := dep_none (hd.trans (if_pos (.inl a1))) (show i + 1 ≤ l.length by omega)
      refine rp W 0 rfl rfl rfl (.no (fun k => by have := k.2; rw [hn] at this; cases this))
    refine sp W 0 rfl rfl rfl (fun a2 => ?_) (fun a2 => ?_)
    · have hn := dep_none (hd.trans (if_pos (.inr a2))) (show i + 1 ≤ l.length by omega)
      refine rp W 0 rfl rfl rfl (.no (fun k => by have := k.2; rw [hn] at this; cases this))
    rw [if_neg (by omega)] at hd
    refine bd W 0 1 [1, 3, 4] rfl rfl rfl rfl rfl (ih (i + 1, d - z + 1) ⟨by dsimp only; omega, hd⟩ (by dsimp only; omega))
  · have hil : i = l.length := by omega
    subst hil
    refine rp W 0 rfl rfl rfl (.pr ⟨fun e => ⟨by omega, by rw [he, e]⟩, fun k => by have := k.2; rw [he] at this; cases this; rfl⟩)
theorem implTermOk_ok (l : List Nd) (hx : txtOk l) (hl : l.length ≤ 1048576) : AFunP Tryz.prog 46 [termV l] (· = .pr (termP l)) := by
  refine afun_of Tryz.func46 Tryz.call46 rfl Tryz.ntmps46 rfl ?_
  have W : Walk Tryz.prog TT 46 _ := Walk.of TT_ok Tryz.func46 Tryz.results46
  refine lp W 0 (σ := Nat × Int) (fun s => [(1, .ptr 0 0 0 0), (3, .int .i64 s.2), (8, .fz l.length (nodeR l)), (9, .int .i64 l.length), (10, .int .i64 s.1)]) (fun _ => [.lst 0 [[.fz l.length (nodeR l)]]]) (fun s => l.length - s.1) (fun s => s.1 ≤ l.length ∧ dep l s.1 = some s.2) (0, 0) [1, 3, 8, 9, 10] rfl rfl rfl ⟨Nat.zero_le _, rfl⟩ ?_
  rintro ⟨i, d⟩ ⟨hi, he⟩ ih
  dsimp only at hi he ih ⊢
  have hr := dep_rng he
  refine sp W 0 rfl rfl rfl (fun h2 => ?_) (fun h2 => ?_)
  · have h2 : i < l.length := by omega
    have kp := parts_ok (l.getD i (0, 0, [])).1 (l.getD i (0, 0, [])).2.1 (l.getD i (0, 0, [])).2.2 (hx i h2)
    have hd : dep l (i + 1) = if partsZ (l.getD i (0, 0, [])).1 (l.getD i (0, 0, [])).2.1 (l.getD i (0, 0, [])).2.2 < 0 ∨ d < partsZ (l.getD i (0, 0, [])).1 (l.getD i (0, 0, [])).2.1 (l.getD i (0, 0, [])).2.2 then none else some (d - partsZ (l.getD i (0, 0, [])).1 (l.getD i (0, 0, [])).2.1 (l.getD i (0, 0, [])).2.2 + 1) := by
      simp only [dep, he]; rfl
    refine ce W 0 rfl rfl (kp) rfl ?_
    generalize partsZ (l.getD i (0, 0, [])).1 (l.getD i (0, 0, [])).2.1 (l.getD i (0, 0, [])).2.2 = z at *
    refine sp W 0 rfl rfl rfl (fun a1 => ?_) (fun a1 => ?_)
    · have hn := dep_none (hd.trans (if_pos (.inl a1))) (show i + 1 ≤ l.length by omega)
      refine rp W 0 rfl rfl rfl (.no (fun k => by have := k.2; rw [hn] at this; cases this))
    refine sp W 0 rfl rfl rfl (fun a2 => ?_) (fun a2 => ?_)
    · have hn := dep_none (hd.trans (if_pos (.inr a2))) (show i + 1 ≤ l.length by omega)
      refine rp W 0 rfl rfl rfl (.no (fun k => by have := k.2; rw [hn] at this; cases this))
    rw [if_neg (by omega)] at hd
    rw [show d - z + 1 = d + (1 - z) by omega] at hd
    refine bd W 0 1 [1, 3, 8, 9, 10] rfl rfl rfl rfl rfl (ih (i + 1, d + (1 - z)) ⟨by dsimp only; omega, hd⟩ (by dsimp only; omega))
  · have hil : i = l.length := by omega
    subst hil
    refine sp W 0 rfl rfl rfl (fun b1 => ?_) (fun b1 => ?_)
    · refine rp W 0 rfl rfl rfl (.pr ⟨fun e => ⟨by omega, by rw [he, b1]⟩, fun k => by have := k.1; omega⟩)
    · refine rp W 0 rfl rfl rfl (.no (fun k => by have := k.2; rw [he] at this; cases this; exact b1 rfl))
theorem szNode_ok (x : Nd) (left : Int) (hl : 0 ≤ left ∧ left ≤ 1048576) (hx : x.2.2.length ≤ 9223372036854775807) : AFunP Tryz.prog 77 [nodeV x, .int .i64 left] (· = .int .i64 (if left < x.2.2.length then -1 else left - x.2.2.length)) := by
  unfold nodeV
  refine afun_of Tryz.func77 Tryz.call77 rfl Tryz.ntmps77 rfl ?_
  have W : Walk Tryz.prog TT 77 _ := Walk.of TT_ok Tryz.func77 Tryz.results77
  refine sp W 0 rfl rfl rfl (fun h1 => ?_) (fun h1 => ?_)
  · refine rp W 0 rfl rfl rfl (.int (by rw [if_pos (by omega)]))
  · refine rp W 0 rfl rfl rfl (.int (by rw [if_neg (by omega)]))
theorem toNode_ok (x : Nd) : AFunP Tryz.prog 79 [nodeV x] (· = nodeV x) := by
  unfold nodeV
  refine afun_of Tryz.func79 Tryz.call79 rfl Tryz.ntmps79 rfl ?_
  have W : Walk Tryz.prog TT 79 _ := Walk.of TT_ok Tryz.func79 Tryz.results79
  refine rp W 0 rfl rfl rfl (.refl)
theorem eqNode_ok (x y : Nd) : AFunP Tryz.prog 84 [nodeV x, nodeV y] (· = .pr (x = y)) := by
  unfold nodeV
  refine afun_of Tryz.func84 Tryz.call84 rfl Tryz.ntmps84 rfl ?_
  have W : Walk Tryz.prog TT 84 _ := Walk.of TT_ok Tryz.func84 Tryz.results84
  refine sp W 0 rfl rfl rfl (fun h1 => ?_) (fun h1 => ?_)
  · refine rp W 0 rfl rfl rfl (.no (fun k => by subst k; exact h1 rfl))
  refine sp W 0 rfl rfl rfl (fun h2 => ?_) (fun h2 => ?_)
  · refine rp W 0 rfl rfl rfl (.no (fun k => by subst k; exact h2 rfl))
  refine sp W 0 rfl rfl rfl (fun h3 => ?_) (fun h3 => ?_)
  · refine rp W 0 rfl rfl rfl (.no (fun k => by subst k; exact h3 rfl))
  · refine rp W 0 rfl rfl rfl (.yes (Prod.ext (Classical.not_not.1 h1) (Prod.ext (Classical.not_not.1 h2) (Classical.not_not.1 h3))))
theorem eqNodeS_ok (l m : List Nd) (hl : l.length ≤ 1048576) (hm : m.length ≤ 1048576) : AFunP Tryz.prog 48 [.fz l.length (nodeR l), .fz m.length (nodeR m)] (· = .pr (l = m)) := by
  refine afun_of Tryz.func48 Tryz.call48 rfl Tryz.ntmps48 rfl ?_
  have W : Walk Tryz.prog TT 48 _ := Walk.of TT_ok Tryz.func48 Tryz.results48
  refine sp W 0 rfl rfl rfl (fun h1 => ?_) (fun h1 => ?_)
  · refine rp W 0 rfl rfl rfl (.no (fun k => by subst k; omega))
  have h1 : l.length = m.length := by omega
  refine lp W 0 (σ := Nat) (fun i => [(0, .fz l.length (nodeR l)), (1, .fz m.length (nodeR m)), (5, .int .i64 i)]) (fun _ => []) (fun i => l.length - i) (fun i => i ≤ l.length ∧ ∀ j, j < i → l.getD j (0, 0, []) = m.getD j (0, 0, [])) 0 [0, 1, 5] rfl rfl rfl ⟨Nat.zero_le _, fun j hj => by omega⟩ ?_
  rintro i ⟨hi, he⟩ ih
  refine sp W 0 rfl rfl rfl (fun h2 => ?_) (fun h2 => ?_)
  · have h2 : i < l.length := by omega
    have kq := eqNode_ok (l.getD i (0, 0, [])) (m.getD i (0, 0, []))
    refine dre W 0 10 [] [.pr (l.getD i (0, 0, []) = m.getD i (0, 0, []))] rfl rfl rfl ⟨kq.at rfl _, trivial⟩ rfl ?_
    refine sp W 0 rfl rfl rfl (fun h3 => ?_) (fun h3 => ?_)
    · refine rp W 0 rfl rfl rfl (.no (fun k => by subst k; exact h3 rfl))
    · refine bd W 0 0 [0, 1, 5] rfl rfl rfl rfl rfl (ih (i + 1) ⟨by omega, fun j hj => ?_⟩ (by omega))
      by_cases hji : j = i
      · subst hji; exact Classical.not_not.1 h3
      · exact he j (by omega)
  · have hfin : l = m := List.ext_getElem h1 fun j h3 h4 => by
      have := he j (by omega)
      simpa [List.getD_eq_getElem?_getD, h3, h4] using this
    refine rp W 0 rfl rfl rfl (.yes hfin)
theorem eqTerm_ok (l m : List Nd) (hl : l.length ≤ 1048576) (hm : m.length ≤ 1048576) : AFunP Tryz.prog 19 [termV l, termV m] (· = .pr (l = m)) := by
  refine afun_of Tryz.func19 Tryz.call19 rfl Tryz.ntmps19 rfl ?_
  have W : Walk Tryz.prog TT 19 _ := Walk.of TT_ok Tryz.func19 Tryz.results19
  refine ce W 0 rfl rfl (eqNodeS_ok l m hl hm) rfl ?_
  refine sp W 0 rfl rfl rfl (fun h1 => ?_) (fun h1 => ?_)
  · refine rp W 0 rfl rfl rfl (.no h1)
  · refine rp W 0 rfl rfl rfl (.yes (Classical.not_not.1 h1))
theorem toNodeS_ok (l : List Nd) (hl : l.length ≤ 1048576) : AFunP Tryz.prog 45 [.fz l.length (nodeR l)] (· = .fz l.length (nodeR l)) := by
  refine afun_of Tryz.func45 Tryz.call45 rfl Tryz.ntmps45 rfl ?_
  have W : Walk Tryz.prog TT 45 _ := Walk.of TT_ok Tryz.func45 Tryz.results45
  refine lp W 0 (σ := Nat × (Nat → Int) × (Nat → Int) × (Nat → List UInt8)) (fun s => [(0, .fz l.length (nodeR l)), (3, .sl 0 0 0 l.length), (4, .int .i64 s.1)]) (fun s => [.tab 0 l.length fun j => [.int .i64 (s.2.1 j), .int .i64 (s.2.2.1 j), .str (s.2.2.2 j)]]) (fun s => l.length - s.1) (fun s => s.1 ≤ l.length ∧ ∀ j, j < s.1 → (s.2.1 j, s.2.2.1 j, s.2.2.2 j) = l.getD j (0, 0, [])) (0, fun _ => 0, fun _ => 0, fun _ => []) [0, 3, 4] rfl rfl rfl ⟨Nat.zero_le _, fun j hj => by omega⟩ ?_
  rintro ⟨i, F, G, S⟩ ⟨hi, he⟩ ih
  dsimp only at hi he ih ⊢
  refine sp W 0 rfl rfl rfl (fun h2 => ?_) (fun h2 => ?_)
  · have h2 : i < l.length := by omega
    refine ce W 0 rfl rfl (toNode_ok (l.getD i (0, 0, []))) rfl ?_
    refine bd W 0 1 [0, 3, 4] rfl rfl rfl rfl rfl (ih (i + 1, fun j => if j = i then (l.getD i (0, 0, [])).1 else F j, fun j => if j = i then (l.getD i (0, 0, [])).2.1 else G j, fun j => if j = i then (l.getD i (0, 0, [])).2.2 else S j) ⟨by dsimp only; omega, fun j hj => ?_⟩ (by dsimp only; omega))
    dsimp only at hj ⊢
    by_cases hji : j = i
    · subst hji; rw [if_pos rfl, if_pos rfl, if_pos rfl]
    · rw [if_neg hji, if_neg hji, if_neg hji]; exact he j (by omega)
  · refine rp W 0 rfl rfl rfl (.fzn rfl fun j hj => ?_)
    show [AV.int .i64 (F j), AV.int .i64 (G j), AV.str (S j)] = nodeR l j
    have e := he j (by omega)
    unfold nodeR
    rw [← e]
theorem toTerm_ok (l : List Nd) (hl : l.length ≤ 1048576) : AFunP Tryz.prog 16 [termV l] (· = termV l) := by
  refine afun_of Tryz.func16 Tryz.call16 rfl Tryz.ntmps16 rfl ?_
  have W : Walk Tryz.prog TT 16 _ := Walk.of TT_ok Tryz.func16 Tryz.results16
  refine ce W 0 rfl rfl (toNodeS_ok l hl) rfl ?_
  refine rp W 0 rfl rfl rfl (.refl)
theorem szNodeS_ok (l : List Nd) (left : Int) (hl : 0 ≤ left ∧ left ≤ 1048576) (hm : l.length ≤ 9223372036854775807) (hx : ∀ i, i < l.length → (l.getD i (0, 0, [])).2.2.length ≤ 9223372036854775807) : AFunP Tryz.prog 42 [.fz l.length (nodeR l), .int .i64 left] (fun u => ∃ n, u = .int .i64 n ∧ (0 ≤ n → l.length ≤ left ∧ ∀ i, i < l.length → ((l.getD i (0, 0, [])).2.2.length : Int) ≤ left)) := by
  refine afun_of Tryz.func42 Tryz.call42 rfl Tryz.ntmps42 rfl ?_
  have W : Walk Tryz.prog TT 42 _ := Walk.of TT_ok Tryz.func42 Tryz.results42
  refine sp W 0 rfl rfl rfl (fun h1 => ?_) (fun h1 => ?_)
  · refine rq W 0 rfl rfl (.int .i64 (-1)) (⟨_, rfl, fun k => by omega⟩) rfl .refl
  refine lp W 0 (σ := Nat × Int) (fun s => [(0, .fz l.length (nodeR l)), (1, .int .i64 s.2), (5, .int .i64 s.1)]) (fun _ => []) (fun s => l.length - s.1) (fun s => s.1 ≤ l.length ∧ (0 ≤ s.2 ∧ s.2 ≤ left) ∧ ∀ j, j < s.1 → ((l.getD j (0, 0, [])).2.2.length : Int) ≤ left) (0, left - l.length) [0, 1, 5] rfl rfl rfl ⟨Nat.zero_le _, ⟨by dsimp only; omega, by dsimp only; omega⟩, fun j hj => by omega⟩ ?_
  rintro ⟨i, d⟩ ⟨hi, hd, he⟩ ih
  dsimp only at hi hd he ih ⊢
  refine sp W 0 rfl rfl rfl (fun h2 => ?_) (fun h2 => ?_)
  · have h2 : i < l.length := by omega
    have hxi := hx i h2
    refine ce W 0 rfl rfl (szNode_ok (l.getD i (0, 0, [])) d ⟨by omega, by omega⟩ hxi) rfl ?_
    refine sp W 0 rfl rfl rfl (fun h3 => ?_) (fun h3 => ?_)
    · refine rq W 0 rfl rfl (.int .i64 (-1)) (⟨_, rfl, fun k => by omega⟩) rfl .refl
    · by_cases h4 : d < (l.getD i (0, 0, [])).2.2.length
      · rw [if_pos h4] at h3; exact absurd (by omega) h3
      · simp only [if_neg h4]
        refine bd W 0 0 [0, 1, 5] rfl rfl rfl rfl rfl (ih (i + 1, d - (l.getD i (0, 0, [])).2.2.length) ⟨by dsimp only; omega, ⟨by dsimp only; omega, by dsimp only; omega⟩, fun j hj => ?_⟩ (by dsimp only; omega))
        by_cases hji : j = i
        · subst hji; omega
        · exact he j (by dsimp only at hj; omega)
  · refine rq W 0 rfl rfl (.int .i64 d) (⟨_, rfl, fun k => ⟨by omega, fun j hj => he j (by omega)⟩⟩) rfl .refl
theorem szTerm_ok (l : List Nd) (hm : l.length ≤ 9223372036854775807) (hx : ∀ i, i < l.length → (l.getD i (0, 0, [])).2.2.length ≤ 9223372036854775807) : AFunP Tryz.prog 14 [termV l, .int .i64 1048576] (fun u => ∃ n, u = .int .i64 n ∧ (0 ≤ n → l.length ≤ 1048576 ∧ txtOk l)) := by
  refine afun_of Tryz.func14 Tryz.call14 rfl Tryz.ntmps14 rfl ?_
  have W : Walk Tryz.prog TT 14 _ := Walk.of TT_ok Tryz.func14 Tryz.results14
  refine cq W 0 rfl rfl (szNodeS_ok l 1048576 ⟨by omega, by omega⟩ hm hx) ?_
  rintro _ ⟨n, rfl, hn⟩
  refine ⟨_, rfl, ?_⟩
  refine sp W 0 rfl rfl rfl (fun h1 => ?_) (fun h1 => ?_)
  · refine rq W 0 rfl rfl (.int .i64 (-1)) (⟨_, rfl, fun k => by omega⟩) rfl .refl
  · refine rq W 0 rfl rfl (.int .i64 n) (⟨_, rfl, fun k => ⟨by have := (hn k).1; omega, fun i hi => by have := (hn k).2 i hi; omega⟩⟩) rfl .refl
end Pf
/- What the laid variables hold -/
namespace Pf
open Go Go.Proofs
open Go.RowKit
theorem open_strs {P : Program} {H : Type} {enc : TypeId × Value → H} {w : World} {base : Nat} {spare : Nat → Bool} {held : Bool} {fuel : Nat} {t e : TypeId} {cs : List Value} {p : List MemPlace} (ht : P.underlying t = some (.slice e)) (he : P.underlying e = some .string) (hc : P.cellsOf e = 1)
    {ws : List (List UInt8)} (hw : ws ≠ []) (h : DataW.trod enc P w base spare held fuel t cs = some (.slice (ws.map fun s => .lit (.string s)) [], p)) : VRs (worldFM w) noB [.fz ws.length fun i => [.str (ws.getD i [])]] cs := by
  rcases Go.Deep.open_slice ht h with ⟨_, h2⟩ | ⟨a, len, cap, m, n, D, Pl, rfl, _, hl, hm, hmm, hx, hel⟩
  · cases (Prod.mk.inj h2).1
  have hle : len ≤ m := by rw [hmm]; split <;> omega
  have e1 : ws.map (fun s => (DataW.lit (.string s) : DataW H)) = (List.range len).map D := (DataW.slice.inj (Prod.mk.inj hx).1).1
  have el : ws.length = len := by have := congrArg List.length e1; simpa using this
  have eD : ∀ i, i < len → D i = .lit (.string (ws.getD i [])) := by
    intro i hi
    have := congrArg (fun l => l[i]?) e1
    simp only [List.getElem?_map, List.getElem?_range, hi, Option.map_some] at this
    rw [List.getElem?_eq_getElem (by omega : i < ws.length)] at this
    simp only [Option.map_some, Option.some.injEq] at this
    rw [← this]
    simp [List.getD_eq_getElem?_getD, show i < ws.length by omega]
  have each : ∀ i, i < len → ∃ s : ByteArray, s.data.toList = ws.getD i [] ∧ w.cell? (a.add i) = some (.string s) := by
    intro i hi
    obtain ⟨cs', h1, h2⟩ := hel i (by omega)
    obtain ⟨s, rfl, h3, _⟩ := DataW.trod_string he h2
    obtain ⟨_, _, h6⟩ := World.cells?_some h1
    rw [hc] at h6
    have h7 := h6 0 (by omega)
    rw [Nat.mul_one] at h7
    refine ⟨s, ?_, by simpa [Addr.add] using h7⟩
    have h8 := (Prod.mk.inj h3).1
    rw [eD i hi] at h8
    injection h8 with h9
    injection h9 with h9
    exact h9.symm
  have hpos : 0 < len := by rw [← el]; exact List.length_pos_iff.2 hw
  have ha : a = ⟨a.block, a.off, none⟩ := by
    obtain ⟨s, _, h4⟩ := each 0 hpos
    exact cell_spot (by simpa [Addr.add] using h4)
  rw [el]
  refine .single ?_
  rw [ha]
  let f : Nat → Value := fun i => if h : i < len then .string (each i h).choose else undef
  have hf : ∀ i, i < len → ∃ s : ByteArray, f i = .string s ∧ s.data.toList = ws.getD i [] ∧ w.cell? (a.add i) = some (f i) := fun i hi => by
    have := (each i hi).choose_spec
    simp only [f, dif_pos hi]
    exact ⟨_, rfl, this.1, this.2⟩
  refine .fz (sz := 1) (fun i _ => f i) (by omega) hl (fun i hi => rfl) (fun i j hi hj => ?_) (fun i j hi hj => ?_) (fun i j hi hj => ?_)
  · obtain ⟨s, h1, h2, h3⟩ := hf i hi
    rw [ha, addr_add] at h3
    unfold worldFM
    rw [show j = 0 by omega, Nat.mul_one, Nat.add_zero]
    exact h3
  · obtain ⟨s, h1, h2, h3⟩ := hf i hi
    rw [h1]; rfl
  · obtain ⟨s, h1, h2, h3⟩ := hf i hi
    have : j = 0 := by simpa using hj
    subst this
    rw [h1]
    exact .str h2
theorem var_one {P : Program} {w : World} {n : String} {g : Nat} {cs : Array Value} (hg : P.globalNamed n = some g) (hv : w.var? P n = some cs) {a : AV} (h : VRs (worldFM w) noB [a] cs.toList) : ∃ c, worldFM w g 0 = some c ∧ VR (worldFM w) noB a c := by
  obtain ⟨h1, h2⟩ := h
  have h3 := h2 0 (by simp)
  have hl : 0 < cs.size := by have : 1 = cs.toList.length := h1; simp at this; omega
  refine ⟨cs[0], ?_, ?_⟩
  · show w.cell? ⟨g, 0, none⟩ = _
    rw [World.var?_cell hg hv 0]
    simp [hl]
  · have e : cs.toList.getD 0 undef = cs[0] := by simp [List.getD_eq_getElem?_getD, hl]
    rw [e] at h3
    exact h3
theorem iface_of {P : Program} {H : Type} {enc : TypeId × Value → H} {w : World} {base : Nat} {spare : Nat → Bool} {fuel : Nat} {t : TypeId} {ms : Array (String × TypeId)} {cs : List Value} {nm : String} {d : DataW H} {p : List MemPlace} (ht : P.underlying t = some (.interface ms)) (h : DataW.trod enc P w base spare false fuel t cs = some (.iface nm d, p)) : ∃ u v, cs = [.iface u v] := by
  cases fuel with
  | zero => simp [DataW.trod] at h
  | succ n =>
    unfold DataW.trod at h
    rw [ht] at h
    split at h <;> simp_all
theorem var_iface {P : Program} {w : World} {n : String} {g : Nat} {cs : Array Value} (hg : P.globalNamed n = some g) (hv : w.var? P n = some cs) {u : TypeId} {v : Value} (h : cs.toList = [.iface u v]) : ∃ ev, worldFM w g 0 = some ev ∧ (ev = .nilIface ∨ ∃ te pe, ev = .iface te pe) := by
  refine ⟨.iface u v, ?_, .inr ⟨u, v, rfl⟩⟩
  show w.cell? ⟨g, 0, none⟩ = _
  rw [World.var?_cell hg hv 0]
  obtain ⟨l⟩ := cs
  simp only at h
  subst h
  rfl
end Pf
/- Of a block of whole numbers, the tail is forgotten. -/
namespace Pf
open Go
variable {P : Program} {TT : TypeId → Option TI} {f N n0 : Nat} {k : List Item} {T : Env} {H : AHeap} {R : AV → AHeap → Prop} {nf : Nat} {ops : Array Oper} {past op pend : List Nat} {vs : List (Option Nat × AV)}

theorem shr_back {b m g : Nat} {kk : IntKind} {l : List Int} {H2 : AHeap} (e1 : nthM H b = some (.ints g kk l)) (e2 : setM (.ints g kk (l.take m)) H b = some H2) :
    H2.length = H.length ∧ ∀ b' blk', H2[b']? = some blk' → (b' = b ∧ blk' = .ints g kk (l.take m)) ∨ H[b']? = some blk' := by
  rw [nthM_eq] at e1
  rw [setM_eq] at e2
  split at e2
  · simp only [Option.some.injEq] at e2
    subst e2
    refine ⟨by simp, fun b' blk' h => ?_⟩
    rw [List.getElem?_set] at h
    split at h
    · rename_i hb
      subst hb
      simp only [Option.some.injEq] at h
      exact .inl ⟨rfl, h.symm⟩
    · exact .inr h
  · cases e2
theorem shr_view {b m g : Nat} {kk : IntKind} {l : List Int} {H2 : AHeap} (e1 : nthM H b = some (.ints g kk l)) (e2 : setM (.ints g kk (l.take m)) H b = some H2) {b' g' n' : Nat} {blk' : ABlk} {row' : Nat → List AV}
    (h1 : H2[b']? = some blk') (h2 : blk'.view = some (g', n', row')) : ∃ blk n row, H[b']? = some blk ∧ blk.view = some (g', n, row) ∧ blk'.width = blk.width := by
  rcases (shr_back e1 e2).2 b' blk' h1 with ⟨rfl, rfl⟩ | h
  · rw [nthM_eq] at e1
    simp only [ABlk.view, Option.some.injEq, Prod.mk.injEq] at h2
    obtain ⟨rfl, _, _⟩ := h2
    exact ⟨_, _, _, e1, rfl, rfl⟩
  · exact ⟨_, _, _, h, h2, rfl⟩
theorem shr_img {b m g : Nat} {kk : IntKind} {l : List Int} {H2 : AHeap} {β : BMap} (e1 : nthM H b = some (.ints g kk l)) (e2 : setM (.ints g kk (l.take m)) H b = some H2) {cb : Nat} (h : Img β H2 cb) : Img β H cb := by
  obtain ⟨b', blk', g', n', row', L, h1, h2, h3, h4⟩ := h
  rcases (shr_back e1 e2).2 b' blk' h1 with ⟨rfl, rfl⟩ | h
  · rw [nthM_eq] at e1
    cases h2
    exact ⟨_, _, _, _, _, L, e1, rfl, h3, h4⟩
  · exact ⟨b', blk', g', n', row', L, h, h2, h3, h4⟩
theorem RelH.shr {FM : FMem} {β : BMap} {w : World} (hh : RelH FM β H w) {b m g : Nat} {kk : IntKind} {l : List Int} {H2 : AHeap} (e1 : nthM H b = some (.ints g kk l)) (e2 : setM (.ints g kk (l.take m)) H b = some H2)
    {off len : Nat} {cv : Value} (hv : VR FM β (.sl b g off len) cv) (ho : off ≤ m) : RelH FM β H2 w where
  mem b' blk' g' n' row' h1 h2 := by
    rcases (shr_back e1 e2).2 b' blk' h1 with ⟨rfl, rfl⟩ | h
    · rw [nthM_eq] at e1
      simp only [ABlk.view, Option.some.injEq, Prod.mk.injEq] at h2
      obtain ⟨rfl, rfl, rfl⟩ := h2
      obtain ⟨lo, q1, q2⟩ := hh.mem _ _ _ _ _ e1 rfl
      refine ⟨lo, q1, ?_⟩
      cases lo with
      | none =>
        have : l.length = 0 := q2
        have hl : l = [] := List.length_eq_zero_iff.1 this
        subst hl
        simp [MemAt]
      | some L =>
        have hs : L.sh ≤ off := by
          cases hv with
          | sl h hs hr hc hp => rw [q1] at h; cases h; exact hs
          | sl0 h hs => rw [q1] at h; cases h; exact hs _ rfl
        obtain ⟨z1, z2, z3, ⟨c, el, fr, y1, y2, y3, y4, y5⟩, z5⟩ := q2
        refine ⟨z1, by rw [List.length_take]; omega, by rw [List.length_take]; omega, ⟨c, el, fr, y1, y2, y3, y4, fun r r1 r2 => ?_⟩, z5⟩
        rw [List.length_take] at r2
        have := y5 r r1 (by omega)
        rw [show (l.take m).getD r 0 = l.getD r 0 by simp [List.getD_eq_getElem?_getD, List.getElem?_take, show r < m by omega]]
        exact this
    · exact hh.mem _ _ _ _ _ h h2
  inj b1 b2 blk1 blk2 g1 g2 n1 n2 row1 row2 L1 L2 h1 h2 h3 h4 h5 h6 h7 := by
    obtain ⟨c1, d1, f1, p1, p2, _⟩ := shr_view e1 e2 h1 h2
    obtain ⟨c2, d2, f2, q1, q2, _⟩ := shr_view e1 e2 h4 h5
    exact hh.inj _ _ _ _ _ _ _ _ _ _ _ _ p1 p2 h3 q1 q2 h6 h7
  wid b1 blk1 g1 n1 row1 L h1 h2 h3 := by
    obtain ⟨c1, d1, f1, p1, p2, p3⟩ := shr_view e1 e2 h1 h2
    rw [p3]
    exact hh.wid _ _ _ _ _ _ p1 p2 h3
  fm := hh.fm
  dom b1 g1 lo h := by
    obtain ⟨q1, q2⟩ := hh.dom b1 g1 lo h
    refine ⟨by rw [(shr_back e1 e2).1]; exact q1, fun blk' g' n' row' h1 h2 => ?_⟩
    obtain ⟨c1, d1, f1, p1, p2, _⟩ := shr_view e1 e2 h1 h2
    exact q2 _ _ _ _ p1 p2
  gk := hh.gk
  mp := hh.mp.keep (fun _ _ _ h => h) (fun b' vb sh es h => by
    rcases (shr_back e1 e2).2 b' _ h with ⟨_, h⟩ | h
    · cases h
    · exact h) fun _ _ _ h => h
theorem Ext.shr {FM : FMem} {β : BMap} {w : World} {b m g : Nat} {kk : IntKind} {l : List Int} {H2 : AHeap} (e1 : nthM H b = some (.ints g kk l)) (e2 : setM (.ints g kk (l.take m)) H b = some H2) : Ext FM β H w FM β H2 w where
  fm _ _ _ h := h
  bm _ _ _ h := h
  size := Nat.le_refl _
  img cb _ h := shr_img e1 e2 h
  frame _ _ _ := rfl
  fmn _ _ _ h := .inl h
  len := by rw [(shr_back e1 e2).1]; exact Nat.le_refl _
  os := rfl
  output := rfl
  tape := rfl
/-- The block 'b' is cut behind 'm' (the slot 'd' holds a piece that begins at or ahead of 'm'). -/
theorem go_cut (b m d : Nat) {g : Nat} {kk : IntKind} {l : List Int} {H2 : AHeap} {off len : Nat} (e1 : nthM H b = some (.ints g kk l)) (e2 : setM (.ints g kk (l.take m)) H b = some H2) (e3 : getM T d = some (.sl b g off len))
    (ho : off ≤ m) (h : AGo P f N n0 k T H2 R) : AGo P f N n0 k T H R := by
  intro FM β b cs a w a1 a2 a3 a4 hT hH hn0
  exact Ext.go (Ext.shr e1 e2) hn0 (h FM β b cs a w a1 a2 a3 a4 hT (hH.shr e1 e2 (hT d _ e3) ho)) (b := b) (.refl _ _)
/-- The same within a region. -/
theorem phc (b m d : Nat) {g : Nat} {kk : IntKind} {l : List Int} {H2 : AHeap} {off len : Nat} (W : PW P TT N ops nf) (e1 : nthM H b = some (.ints g kk l)) (e2 : setM (.ints g kk (l.take m)) H b = some H2) (e3 : getM T d = some (.sl b g off len))
    (e4 : hasD d vs = false) (ho : off ≤ m) (h : Ph1 P f N n0 nf ops k T R past pend op vs H2) : Ph1 P f N n0 nf ops k T R past pend op vs H := by
  intro hv
  have hd : distD vs = true := by
    rw [distD_fst hv]
    have hst := W.st
    simp only [stM, Bool.and_eq_true] at hst
    exact hst.1.2
  intro l' done p1 p2 p3 p4 p5 p6
  refine go_cut b m d (off := off) (len := len) e1 e2 ?_ ho (h hv l' done p1 p2 p3 p4 p5 p6)
  rcases TS_get (S := done) (d := d) (T := T) hd with ⟨j, hj, q1, q2, q3⟩ | ⟨q1, q2⟩
  · have := hasD_iff.2 ⟨j, hj, q1⟩
    rw [e4] at this; cases this
  · rw [q2]; exact e3
end Pf
/- Functions that are lent the blocks at hand and make new ones, of rows of any kind. -/
namespace Pf
open Go
variable {P : Program} {TT : TypeId → Option TI} {f N n0 : Nat} {k : List Item} {T : Env} {H : AHeap} {R : AV → AHeap → Prop}

mutual
/-- Places in blocks, and what says nothing of any memory. -/
def flatN : AV → Bool
  | .agg cs => flatNL cs
  | .tup cs => flatNL cs
  | .ptr _ _ _ _ | .sl _ _ _ _ | .mp _ => true
  | .top | .bool _ | .pr _ | .anyb _ _ | .int _ _ | .str _ | .nilp | .nils | .e0 | .nilf | .nili => true
  | _ => false
def flatNL : List AV → Bool
  | [] => true
  | v :: vs => match flatN v with | true => flatNL vs | false => false
end
theorem flatNL_get : ∀ {vs : List AV} (h : flatNL vs = true) (i : Nat) (hi : i < vs.length), flatN vs[i] = true
  | v :: vs, h, i, hi => by
    simp only [flatNL] at h
    cases hv : flatN v with
    | false => simp [hv] at h
    | true =>
      simp only [hv] at h
      cases i with
      | zero => exact hv
      | succ i => exact flatNL_get h i (by simpa using hi)
theorem VR.shfN {FM FM' : FMem} {β β' : BMap} {d : Nat} (hb : ∀ b g, β' (b + d) g = β b g) {v : AV} {cv : Value} (h : VR FM β v cv) (hf : flatN v = true) : VR FM' β' (Pf.shf d v) cv := by
  induction h with
  | top => exact .top
  | bool => exact .bool
  | pr h => exact .pr h
  | anyb h1 h2 => exact .anyb h1 h2
  | int => exact .int
  | str h => exact .str h
  | nilp => exact .nilp
  | ptr h hs => exact .ptr (by rw [hb]; exact h) hs
  | nils => exact .nils
  | e0 => exact .e0
  | sl h hs hr hc hp => exact .sl (by rw [hb]; exact h) hs hr hc hp
  | sl0 h hs => exact .sl0 (by rw [hb]; exact h) hs
  | nilf => exact .nilf
  | nili => exact .nili
  | mp h => exact .mp (by rw [hb]; exact h)
  | agg h1 hv ih =>
    simp only [Pf.shf, shfL_eq]
    exact .agg (by simpa using h1) (fun i hi => by
      rw [List.getElem_map]
      exact ih i (by simpa using hi) hb (flatNL_get hf i (by simpa using hi)))
  | tup h1 hv ih =>
    simp only [Pf.shf, shfL_eq]
    exact .tup (by simpa using h1) (fun i hi => by
      rw [List.getElem_map]
      exact ih i (by simpa using hi) hb (flatNL_get hf i (by simpa using hi)))
  | _ => simp [flatN] at hf

/-- Blocks whose rows say nothing of any memory. -/
def plainB : ABlk → Prop
  | .lst _ rows => ∀ r, r ∈ rows → nofmL r = true
  | .ints _ _ _ => True
  | .tab _ n row => ∀ i, i < n → nofmL (row i) = true
  | .dead => True
  | _ => False
def plainH : AHeap → Prop
  | [] => True
  | b :: bs => plainB b ∧ plainH bs
theorem plainH_get : ∀ {H : AHeap}, plainH H → ∀ {i : Nat} {blk : ABlk}, H[i]? = some blk → plainB blk
  | b :: bs, h, 0, blk, e => by simp at e; subst e; exact h.1
  | b :: bs, h, i + 1, blk, e => plainH_get h.2 (i := i) (by simpa using e)
  | [], h, i, blk, e => by simp at e
theorem plainB_row {blk : ABlk} (h : plainB blk) {g n : Nat} {row : Nat → List AV} (hv : blk.view = some (g, n, row)) : ∀ i, i < n → nofmL (row i) = true := by
  intro i hi
  cases blk with
  | dead => cases hv
  | mp vb sh es => cases hv
  | lst g' rows =>
    simp only [ABlk.view, Option.some.injEq, Prod.mk.injEq] at hv
    obtain ⟨rfl, rfl, rfl⟩ := hv
    have := h rows[i] (List.getElem_mem hi)
    simpa [List.getD_eq_getElem?_getD, hi] using this
  | ints g' k l =>
    simp only [ABlk.view, Option.some.injEq, Prod.mk.injEq] at hv
    obtain ⟨rfl, rfl, rfl⟩ := hv
    rfl
  | tab g' n' row' =>
    simp only [ABlk.view, Option.some.injEq, Prod.mk.injEq] at hv
    obtain ⟨rfl, rfl, rfl⟩ := hv
    exact h i hi

/-- Blocks made by a function that is lent those at hand: they come behind these. -/
theorem AFun.lent {args args' : List AV} {Q : AV → AHeap → Prop} (h : AFun P f args' [] Q) {ss : List Prop} (e : mapF (frz (fun _ => true) H 9) args = some (ss, args')) (hss : AllC ss) (hc : cloL args' = true) (hfl : ∀ u H2, Q u H2 → flatN u = true ∧ plainH H2) :
    AFun P f args H fun v H1 => ∃ u H2, Q u H2 ∧ v = shf H.length u ∧ H1 = H ++ H2 := by
  refine ⟨h.1, fun FM β cs w cargs hv hh => ?_⟩
  have hF := frzFM_frozen (sel := fun _ => true) hh
  have hv' := hv.frz hh hF e hss
  obtain ⟨v, w', fr, av, FM1, β1, H1, hQ, h1, h2, h3, h4, h5, h6⟩ := h.2 _ noB cs w cargs ⟨hv'.1, fun i hi => (hv'.2 i hi).clo (cloL_get hc i hi) noB⟩ hh.lend
  obtain ⟨f1, f2⟩ := hfl _ _ hQ
  let β' : BMap := fun b g => if b < H.length then β b g else β1 (b - H.length) g
  have hlo : ∀ {b g : Nat}, b < H.length → β' b g = β b g := fun hb => by simp [β', hb]
  have hhi : ∀ b g, β' (b + H.length) g = β1 b g := fun b g => by simp [β', show ¬ b + H.length < H.length by omega]
  have hold : ∀ b g lo, β b g = some lo → β' b g = some lo := fun b g lo hb => by rw [hlo (hh.dom _ _ _ hb).1]; exact hb
  have img1 : ∀ cb, cb < w.heap.size → ¬ Img β1 H1 cb := fun cb hl hi => noImg cb (h3.img cb hl hi)
  have get : ∀ {i : Nat} {bl : ABlk}, (H ++ H1)[i]? = some bl → (i < H.length ∧ H[i]? = some bl) ∨ (∃ j, i = j + H.length ∧ H1[j]? = some bl) := by
    intro i bl hi
    rcases Nat.lt_or_ge i H.length with hl | hl
    · rw [List.getElem?_append_left hl] at hi; exact .inl ⟨hl, hi⟩
    · rw [List.getElem?_append_right hl] at hi
      exact .inr ⟨i - H.length, by omega, hi⟩
  have getm : ∀ (i : Nat) (vb : Bool) (sh : Option (List Bool)) (es : List (MKey × Int)), (H ++ H1)[i]? = some (.mp vb sh es) → H[i]? = some (.mp vb sh es) := by
    intro i vb sh es hi
    rcases get hi with ⟨_, hi⟩ | ⟨j, _, hj⟩
    · exact hi
    · exact (plainH_get f2 hj).elim
  have small : ∀ {b g : Nat} {blk : ABlk} {n : Nat} {row : Nat → List AV} {L : Loc}, H[b]? = some blk → blk.view = some (g, n, row) → β b g = some (some L) → L.cb < w.heap.size := by
    intro b g blk n row L q1 q2 q3
    obtain ⟨lo, p1, p2⟩ := hh.mem b blk g n row q1 q2
    rw [q3] at p1
    cases p1
    exact MemOk.lt p2
  have big : ∀ {b g : Nat} {blk : ABlk} {n : Nat} {row : Nat → List AV} {L : Loc}, H1[b]? = some blk → blk.view = some (g, n, row) → β1 b g = some (some L) → w.heap.size ≤ L.cb := by
    intro b g blk n row L q1 q2 q3
    rcases Nat.lt_or_ge L.cb w.heap.size with hl | hl
    · exact absurd ⟨b, blk, g, n, row, L, q1, ABlk.vw_of q2, q3, rfl⟩ (img1 _ hl)
    · exact hl
  have nofree : ∀ cb o, w.heap.size ≤ cb → FM cb o = none := by
    intro cb o hcb
    cases hx : FM cb o with
    | none => rfl
    | some x => have := cell_lt (hh.fm _ _ _ hx); omega
  refine ⟨v, w', fr, shf H.length av, FM, β', H ++ H1, ⟨av, H1, hQ, rfl, rfl⟩, h1.shfN hhi f1, ?_, ?_, h4, h5, h6⟩
  · have hmp : MapsOk β' (H ++ H1) w' := hh.mp.keep hold getm fun cb es cl h => by rw [h3.frame _ (Array.getElem?_eq_some_iff.1 h).1 (noImg _)]; exact h
    refine ⟨?_, ?_, ?_, fun cb o x hx => h2.fm _ _ _ (h3.fm _ _ _ (hF.1 _ _ _ hx)), ?_, hh.gk, hmp⟩
    · intro i bl g n row q1 q2
      rcases get q1 with ⟨hi, q1⟩ | ⟨j, rfl, p1⟩
      · obtain ⟨lo, k1, k2⟩ := hh.mem i bl g n row q1 q2
        refine ⟨lo, by rw [hlo hi]; exact k1, ?_⟩
        cases lo with
        | none => exact k2
        | some L => exact MemOk.still k2 (h3.frame _ (MemOk.lt k2) (noImg _)) hold
      · obtain ⟨lo, k1, k2⟩ := h2.mem j bl g n row p1 q2
        refine ⟨lo, by rw [hhi]; exact k1, ?_⟩
        cases lo with
        | none => exact k2
        | some L =>
          have k2 : MemOk FM1 β1 w' L n row := k2
          obtain ⟨c, e, frr, c1, c2, c3, c4, c5⟩ := k2.cells
          refine ⟨k2.sz, k2.sh, k2.fit, ⟨c, e, frr, c1, c2, c3, c4, fun r hr1 hr2 => ?_⟩, fun o => nofree _ _ (big p1 q2 k1)⟩
          obtain ⟨k3, k4⟩ := c5 r hr1 hr2
          refine ⟨k3, fun j hj => ?_⟩
          obtain ⟨cv, k5, k6⟩ := k4 j hj
          exact ⟨cv, k5, k6.nofm (nofmL_get (plainB_row (plainH_get f2 p1) q2 r hr2) j hj) _ _⟩
    · intro b b' k1 k1' g g' n n' row row' L L' q1 q2 q3 q1' q2' q3' he
      rcases get q1 with ⟨hi, p1⟩ | ⟨j, rfl, p1⟩
      · rcases get q1' with ⟨hi', p1'⟩ | ⟨j', rfl, p1'⟩
        · exact hh.inj b b' k1 k1' g g' n n' row row' L L' p1 q2 (by rw [← hlo hi]; exact q3) p1' q2' (by rw [← hlo hi']; exact q3') he
        · have a := small p1 q2 (by rw [← hlo hi]; exact q3)
          have c := big p1' q2' (by rw [← hhi]; exact q3')
          omega
      · rcases get q1' with ⟨hi', p1'⟩ | ⟨j', rfl, p1'⟩
        · have a := small p1' q2' (by rw [← hlo hi']; exact q3')
          have c := big p1 q2 (by rw [← hhi]; exact q3)
          omega
        · have := h2.inj j j' k1 k1' g g' n n' row row' L L' p1 q2 (by rw [← hhi]; exact q3) p1' q2' (by rw [← hhi]; exact q3') he
          omega
    · intro b bl g n row L q1 q2 q3
      rcases get q1 with ⟨hi, p1⟩ | ⟨j, rfl, p1⟩
      · exact hh.wid b bl g n row L p1 q2 (by rw [← hlo hi]; exact q3)
      · exact h2.wid j bl g n row L p1 q2 (by rw [← hhi]; exact q3)
    · intro b g lo q
      rcases Nat.lt_or_ge b H.length with hi | hi
      · rw [hlo hi] at q
        refine ⟨by simp; omega, fun bl g' n row q1 q2 => ?_⟩
        rcases get q1 with ⟨_, p1⟩ | ⟨j, rfl, _⟩
        · exact (hh.dom b g lo q).2 bl g' n row p1 q2
        · omega
      · obtain ⟨j, rfl⟩ : ∃ j, b = j + H.length := ⟨b - H.length, by omega⟩
        rw [hhi] at q
        obtain ⟨d1, d2⟩ := h2.dom j g lo q
        refine ⟨by simp; omega, fun bl g' n row q1 q2 => ?_⟩
        rcases get q1 with ⟨hlt, _⟩ | ⟨j', he, p1⟩
        · omega
        · have : j' = j := by omega
          subst this
          exact d2 bl g' n row p1 q2
  · refine ⟨fun _ _ _ h => h, hold, h3.size, fun cb hl i => ?_, fun cb hl hi => h3.frame cb hl (noImg cb), fun cb o x hx => .inl hx, by simp, h3.os, h3.output, h3.tape⟩
    obtain ⟨b, bl, g, n, row, L, q1, q2, q3, q4⟩ := i
    cases bl with
    | mp vb sh es =>
      have p1 := getm _ _ _ _ q1
      exact ⟨b, _, g, n, row, L, p1, q2, by rw [← hlo (List.getElem?_eq_some_iff.1 p1).1]; exact q3, q4⟩
    | dead => cases q2
    | _ =>
      rcases get q1 with ⟨hi, p1⟩ | ⟨j, rfl, p1⟩
      · exact ⟨b, _, g, n, row, L, p1, q2, by rw [← hlo hi]; exact q3, q4⟩
      · have := big p1 q2 (by rw [← hhi]; exact q3)
        omega

/-- A call of a function that is lent the blocks and makes new ones. -/
theorem go_callL {rs : List ResultVar} (W : Walk P TT f rs) (m n : Nat) {cs : List Prop} {g : FuncId} {args args' : List AV} {dst : Option Nat} {k' : List Item} {T' : Env} {H' : AHeap} {ss : List Prop} {Q : AV → AHeap → Prop}
    (h : exec TT N rs m n [] k T H = .call cs g args dst k' T' H') (hc : AllC cs) (e : mapF (frz (fun _ => true) H' 9) args = some (ss, args')) (c1 : AllC ss) (hcl : cloL args' = true) (hq : AFun P g args' [] Q) (hfl : ∀ u H2, Q u H2 → flatN u = true ∧ plainH H2)
    (h1 : ∀ u H2, Q u H2 → ∃ T1 H1, dstM N dst (shf (lenM H') u) T' = some T1 ∧ appM H' H2 = some H1 ∧ AGo P f N n0 k' T1 H1 R) : AGo P f N n0 k T H R :=
  go_call W m n h hc (hq.lent e c1 hcl hfl) fun v H1 ⟨u, H2, r1, r2, r3⟩ => by
    obtain ⟨T1, H1', q1, q2, q3⟩ := h1 u H2 r1
    rw [appM_eq] at q2
    rw [lenM_eq] at q1
    cases q2
    subst r2; subst r3
    exact ⟨T1, q1, q3⟩
end Pf
/- A function's contract over some blocks, used where these are some of the blocks at hand: the blocks may be of any kind, lead to each other, and change their generations. -/
namespace Pf
open Go
variable {P : Program} {TT : TypeId → Option TI} {f N n0 : Nat} {k : List Item} {T : Env} {H : AHeap} {R : AV → AHeap → Prop}

/-- Where the callee's block i lies among the caller's: the first are told, new ones come behind. -/
def upI : List Nat → Nat → Nat → Nat
  | [], hl, i => hl + i
  | b :: _, _, 0 => b
  | _ :: ρ, hl, i + 1 => upI ρ hl i
theorem upI_lt : ∀ {ρ : List Nat} {hl i : Nat} (h : i < ρ.length), upI ρ hl i = ρ[i]
  | b :: ρ, hl, 0, h => rfl
  | b :: ρ, hl, i + 1, h => by simp only [upI, List.getElem_cons_succ]; exact upI_lt (by simpa using h)
theorem upI_ge : ∀ {ρ : List Nat} {hl i : Nat}, ρ.length ≤ i → upI ρ hl i = hl + (i - ρ.length)
  | [], hl, i, h => by simp [upI]
  | b :: ρ, hl, 0, h => by simp at h
  | b :: ρ, hl, i + 1, h => by
    simp only [upI, List.length_cons]
    rw [upI_ge (by simpa using h)]
    omega
mutual
def upV (ρ : List Nat) (hl : Nat) : AV → AV
  | .ptr b g r c => .ptr (upI ρ hl b) g r c
  | .sl b g off len => .sl (upI ρ hl b) g off len
  | .mp b => .mp (upI ρ hl b)
  | .agg cs => .agg (upL ρ hl cs)
  | .tup cs => .tup (upL ρ hl cs)
  | .iface t v => .iface t (upV ρ hl v)
  | .fn f fs cs => .fn f (upL ρ hl fs) (upL ρ hl cs)
  | v => v
def upL (ρ : List Nat) (hl : Nat) : List AV → List AV
  | [] => []
  | v :: vs => upV ρ hl v :: upL ρ hl vs
end
theorem upL_eq (ρ : List Nat) (hl : Nat) : ∀ vs, upL ρ hl vs = vs.map (upV ρ hl)
  | [] => rfl
  | v :: vs => by simp [upL, upL_eq ρ hl vs]
theorem VR.up {FM : FMem} {β1 β' : BMap} {ρ : List Nat} {hl : Nat} (hb : ∀ i g, β' (upI ρ hl i) g = β1 i g) {v : AV} {cv : Value} (h : VR FM β1 v cv) : VR FM β' (upV ρ hl v) cv := by
  induction h with
  | top => exact .top
  | bool => exact .bool
  | pr h => exact .pr h
  | anyb h1 h2 => exact .anyb h1 h2
  | int => exact .int
  | str h => exact .str h
  | nilp => exact .nilp
  | ptr h hs => exact .ptr (by rw [hb]; exact h) hs
  | fptr cv hm hv ih => exact .fptr cv hm hv
  | nils => exact .nils
  | e0 => exact .e0
  | fi0 => exact .fi0
  | fi hc hm => exact .fi hc hm
  | fz0 => exact .fz0
  | fz cv hz hc hl hm ho hv ih => exact .fz cv hz hc hl hm ho hv
  | sl h hs hr hc hp => exact .sl (by rw [hb]; exact h) hs hr hc hp
  | sl0 h hs => exact .sl0 (by rw [hb]; exact h) hs
  | fn h1 h2 hv1 hv2 ih1 ih2 =>
    simp only [Pf.upV, upL_eq]
    exact .fn (by simpa using h1) (by simpa using h2) (fun i hi => by rw [List.getElem_map]; exact ih1 i (by simpa using hi) hb) (fun i hi => by rw [List.getElem_map]; exact ih2 i (by simpa using hi) hb)
  | nilf => exact .nilf
  | iface h ih => exact .iface (ih hb)
  | nili => exact .nili
  | mp h => exact .mp (by rw [hb]; exact h)
  | agg h1 hv ih =>
    simp only [Pf.upV, upL_eq]
    exact .agg (by simpa using h1) (fun i hi => by rw [List.getElem_map]; exact ih i (by simpa using hi) hb)
  | tup h1 hv ih =>
    simp only [Pf.upV, upL_eq]
    exact .tup (by simpa using h1) (fun i hi => by rw [List.getElem_map]; exact ih i (by simpa using hi) hb)
/-- And back: what leads to the first blocks only. -/
theorem VR.down {FM : FMem} {β β0 : BMap} {ρ : List Nat} {hl n : Nat} (hb : ∀ i g, i < n → β0 i g = β (upI ρ hl i) g) {x : AV} {cv : Value} (h : VR FM β x cv) : ∀ {v : AV}, x = Pf.upV ρ hl v → Pf.belo n v = true → VR FM β0 v cv := by
  induction h with
  | top => intro v e hv; cases v <;> simp only [Pf.upV, reduceCtorEq] at e; exact .top
  | bool => intro v e hv; cases v <;> simp only [Pf.upV, reduceCtorEq] at e; cases e; exact .bool
  | pr h => intro v e hv; cases v <;> simp only [Pf.upV, reduceCtorEq] at e; cases e; exact .pr h
  | anyb h1 h2 => intro v e hv; cases v <;> simp only [Pf.upV, reduceCtorEq] at e; cases e; exact .anyb h1 h2
  | int => intro v e hv; cases v <;> simp only [Pf.upV, reduceCtorEq] at e; cases e; exact .int
  | str h => intro v e hv; cases v <;> simp only [Pf.upV, reduceCtorEq] at e; cases e; exact .str h
  | nilp => intro v e hv; cases v <;> simp only [Pf.upV, reduceCtorEq] at e; exact .nilp
  | ptr h hs =>
    intro v e hv
    cases v <;> simp only [Pf.upV, reduceCtorEq] at e
    cases e
    simp only [Pf.belo, Nat.blt_eq] at hv
    exact .ptr (by rw [hb _ _ hv]; exact h) hs
  | fptr cv hm hv ih => intro v e _; cases v <;> simp only [Pf.upV, reduceCtorEq] at e; cases e; exact .fptr cv hm hv
  | nils => intro v e hv; cases v <;> simp only [Pf.upV, reduceCtorEq] at e; exact .nils
  | e0 => intro v e hv; cases v <;> simp only [Pf.upV, reduceCtorEq] at e; exact .e0
  | fi0 => intro v e hv; cases v <;> simp only [Pf.upV, reduceCtorEq] at e; cases e; exact .fi0
  | fi hc hm => intro v e hv; cases v <;> simp only [Pf.upV, reduceCtorEq] at e; cases e; exact .fi hc hm
  | fz0 => intro v e hv; cases v <;> simp only [Pf.upV, reduceCtorEq] at e; cases e; exact .fz0
  | fz cv hz hc hl hm ho hv ih => intro v e _; cases v <;> simp only [Pf.upV, reduceCtorEq] at e; cases e; exact .fz cv hz hc hl hm ho hv
  | sl h hs hr hc hp =>
    intro v e hv
    cases v <;> simp only [Pf.upV, reduceCtorEq] at e
    cases e
    simp only [Pf.belo, Nat.blt_eq] at hv
    exact .sl (by rw [hb _ _ hv]; exact h) hs hr hc hp
  | sl0 h hs =>
    intro v e hv
    cases v <;> simp only [Pf.upV, reduceCtorEq] at e
    rename_i b' g' off' len'
    obtain ⟨rfl, rfl, rfl, rfl⟩ : _ ∧ _ ∧ _ ∧ _ := by simpa using e
    simp only [Pf.belo, Nat.blt_eq] at hv
    exact .sl0 (by rw [hb _ _ hv]; exact h) hs
  | fn h1 h2 hv1 hv2 ih1 ih2 =>
    intro v e hv
    cases v <;> simp only [Pf.upV, upL_eq, reduceCtorEq] at e
    cases e
    simp only [Pf.belo] at hv
    split at hv
    · rename_i hf
      exact .fn (by simpa using h1) (by simpa using h2) (fun i hi => ih1 i (by simpa using hi) hb (by rw [List.getElem_map]) (beloL_get hf i hi)) (fun i hi => ih2 i (by simpa using hi) hb (by rw [List.getElem_map]) (beloL_get hv i hi))
    · cases hv
  | nilf => intro v e hv; cases v <;> simp only [Pf.upV, reduceCtorEq] at e; exact .nilf
  | iface h ih => intro v e hv; cases v <;> simp only [Pf.upV, reduceCtorEq] at e; cases e; exact .iface (ih hb rfl hv)
  | nili => intro v e hv; cases v <;> simp only [Pf.upV, reduceCtorEq] at e; exact .nili
  | mp h =>
    intro v e hv
    cases v <;> simp only [Pf.upV, reduceCtorEq] at e
    cases e
    simp only [Pf.belo, Nat.blt_eq] at hv
    exact .mp (by rw [hb _ _ hv]; exact h)
  | agg h1 hv ih =>
    intro v e hv2
    cases v <;> simp only [Pf.upV, upL_eq, reduceCtorEq] at e
    cases e
    exact .agg (by simpa using h1) (fun i hi => ih i (by simpa using hi) hb (by rw [List.getElem_map]) (beloL_get hv2 i hi))
  | tup h1 hv ih =>
    intro v e hv2
    cases v <;> simp only [Pf.upV, upL_eq, reduceCtorEq] at e
    cases e
    exact .tup (by simpa using h1) (fun i hi => ih i (by simpa using hi) hb (by rw [List.getElem_map]) (beloL_get hv2 i hi))
def upB (ρ : List Nat) (hl : Nat) : ABlk → ABlk
  | .lst g rows => .lst g (rows.map fun r => upL ρ hl r)
  | .tab g n row => .tab g n fun i => upL ρ hl (row i)
  | b => b
theorem upB_view {ρ : List Nat} {hl : Nat} {blk : ABlk} {g n : Nat} {row : Nat → List AV} (h : (upB ρ hl blk).view = some (g, n, row)) :
    ∃ row0, blk.view = some (g, n, row0) ∧ (upB ρ hl blk).width = blk.width ∧ ∀ i, i < n → row i = (row0 i).map (upV ρ hl) := by
  cases blk with
  | dead => cases h
  | mp vb sh es => cases h
  | lst g' rows =>
    simp only [upB, ABlk.view, Option.some.injEq, Prod.mk.injEq, List.length_map] at h
    obtain ⟨rfl, rfl, rfl⟩ := h
    refine ⟨_, rfl, ?_, fun i hi => ?_⟩
    · simp only [upB, ABlk.width, List.getD_eq_getElem?_getD, List.getElem?_map]
      cases rows[0]? with
      | none => rfl
      | some r => simp [upL_eq]
    · simp [List.getD_eq_getElem?_getD, hi, upL_eq]
  | ints g' k l =>
    simp only [upB, ABlk.view, Option.some.injEq, Prod.mk.injEq] at h
    obtain ⟨rfl, rfl, rfl⟩ := h
    exact ⟨_, rfl, rfl, fun i hi => rfl⟩
  | tab g' n' row' =>
    simp only [upB, ABlk.view, Option.some.injEq, Prod.mk.injEq] at h
    obtain ⟨rfl, rfl, rfl⟩ := h
    exact ⟨_, rfl, by simp [upB, ABlk.width, upL_eq], fun i hi => upL_eq _ _ _⟩
theorem view_upB {ρ : List Nat} {hl : Nat} {blk : ABlk} {g n : Nat} {row : Nat → List AV} (h : blk.view = some (g, n, row)) :
    ∃ row1, (upB ρ hl blk).view = some (g, n, row1) ∧ (upB ρ hl blk).width = blk.width ∧ ∀ i, i < n → row1 i = (row i).map (upV ρ hl) := by
  have : ∃ row1, (upB ρ hl blk).view = some (g, n, row1) := by
    cases blk with
    | dead => cases h
    | mp vb sh es => cases h
    | _ =>
      simp only [ABlk.view, Option.some.injEq, Prod.mk.injEq] at h
      obtain ⟨rfl, rfl, rfl⟩ := h
      simp [upB, ABlk.view]
  obtain ⟨row1, h1⟩ := this
  obtain ⟨row0, h2, h3, h4⟩ := upB_view h1
  rw [h] at h2
  cases h2
  exact ⟨row1, h1, h3, h4⟩
theorem upB_mp {ρ : List Nat} {hl : Nat} {blk : ABlk} {vb : Bool} {sh : Option (List Bool)} {es : List (MKey × Int)} (h : upB ρ hl blk = .mp vb sh es) : blk = .mp vb sh es := by
  cases blk <;> simp only [upB] at h <;> first | exact h | cases h
/-- The callee's blocks, laid back. -/
def layB (ρ : List Nat) (hl : Nat) : List Nat → AHeap → AHeap → Option AHeap
  | [], H', H => appM H (H'.map (upB ρ hl))
  | b :: bs, c :: H', H => match setM (upB ρ hl c) H b with | some H1 => layB ρ hl bs H' H1 | none => none
  | _ :: _, [], _ => none
theorem layB_get {ρ : List Nat} {hl : Nat} : ∀ {bs : List Nat} {H' H : AHeap}, bs.length ≤ H'.length → (∀ i (h : i < bs.length), bs[i] < H.length) → bs.Nodup →
    ∃ H1, layB ρ hl bs H' H = some H1 ∧ H1.length = H.length + (H'.length - bs.length) ∧ ∀ b k, H1[b]? = some k → (∃ i, ∃ h : i < bs.length, ∃ c, H'[i]? = some c ∧ b = bs[i] ∧ k = upB ρ hl c) ∨ ((∀ i (h : i < bs.length), bs[i] ≠ b) ∧ b < H.length ∧ H[b]? = some k) ∨
      (H.length ≤ b ∧ ∃ c, H'[bs.length + (b - H.length)]? = some c ∧ k = upB ρ hl c)
  | [], H', H, _, _, _ => by
    refine ⟨H ++ H'.map (upB ρ hl), by simp only [layB, appM_eq], by simp, fun b k hk => ?_⟩
    rcases Nat.lt_or_ge b H.length with hb | hb
    · rw [List.getElem?_append_left hb] at hk
      exact .inr (.inl ⟨fun i h => by simp at h, hb, hk⟩)
    · rw [List.getElem?_append_right hb, List.getElem?_map] at hk
      obtain ⟨c, h1, h2⟩ := Option.map_eq_some_iff.1 hk
      exact .inr (.inr ⟨hb, c, by simpa using h1, h2.symm⟩)
  | b0 :: bs, c :: H', H, hl1, hlt, hd => by
    have h0 : b0 < H.length := hlt 0 (by simp)
    have hs : setM (upB ρ hl c) H b0 = some (H.set b0 (upB ρ hl c)) := by rw [setM_eq, if_pos h0]
    have hd' := List.nodup_cons.1 hd
    obtain ⟨H1, h1, h2, h3⟩ := layB_get (ρ := ρ) (hl := hl) (bs := bs) (H' := H') (H := H.set b0 (upB ρ hl c)) (by simpa using hl1) (fun i h => by have := hlt (i + 1) (by simpa using h); rw [List.length_set]; simpa using this) hd'.2
    refine ⟨H1, by simp only [layB, hs]; exact h1, by simpa using h2, fun b k hk => ?_⟩
    rcases h3 b k hk with ⟨i, h4, c', h5, h6, h7⟩ | ⟨h4, h5, h6⟩ | ⟨h4, c', h5, h6⟩
    · exact .inl ⟨i + 1, by simpa using h4, c', by simpa using h5, by simpa using h6, h7⟩
    · rw [List.getElem?_set] at h6
      by_cases hbb : b0 = b
      · subst hbb
        rw [if_pos rfl, if_pos h0] at h6
        exact .inl ⟨0, by simp, c, by simp, rfl, (Option.some.inj h6).symm⟩
      · rw [if_neg hbb] at h6
        refine .inr (.inl ⟨fun i hi => ?_, by simpa using h5, h6⟩)
        cases i with
        | zero => exact hbb
        | succ i => exact h4 i (by simpa using hi)
    · rw [List.length_set] at h4 h5
      refine .inr (.inr ⟨h4, c', ?_, h6⟩)
      rw [List.length_cons, show bs.length + 1 + (b - H.length) = (bs.length + (b - H.length)) + 1 by omega, List.getElem?_cons_succ]
      exact h5
  | _ :: _, [], H, h, _, _ => by simp at h
/-- Rows that lead to the first n blocks only. -/
def inB (n : Nat) : ABlk → Prop
  | .lst _ rows => beloLL n rows = true
  | .tab _ m row => ∀ i, i < m → beloL n (row i) = true
  | _ => True
def inH (n : Nat) : AHeap → Prop
  | [] => True
  | b :: bs => inB n b ∧ inH n bs
theorem inH_get {n : Nat} : ∀ {H : AHeap}, inH n H → ∀ {i : Nat} {blk : ABlk}, H[i]? = some blk → inB n blk
  | b :: bs, h, 0, blk, e => by simp at e; subst e; exact h.1
  | b :: bs, h, i + 1, blk, e => inH_get h.2 (i := i) (by simpa using e)
  | [], h, i, blk, e => by simp at e
theorem inB_row {n : Nat} {blk : ABlk} (h : inB n blk) {g m : Nat} {row : Nat → List AV} (hv : blk.view = some (g, m, row)) : ∀ i, i < m → beloL n (row i) = true := by
  intro i hi
  cases blk with
  | dead => cases hv
  | mp vb sh es => cases hv
  | lst g' rows =>
    simp only [ABlk.view, Option.some.injEq, Prod.mk.injEq] at hv
    obtain ⟨rfl, rfl, rfl⟩ := hv
    have := beloLL_get h i hi
    simpa [List.getD_eq_getElem?_getD, hi] using this
  | ints g' k l =>
    simp only [ABlk.view, Option.some.injEq, Prod.mk.injEq] at hv
    obtain ⟨rfl, rfl, rfl⟩ := hv
    rfl
  | tab g' n' row' =>
    simp only [ABlk.view, Option.some.injEq, Prod.mk.injEq] at hv
    obtain ⟨rfl, rfl, rfl⟩ := hv
    exact h i hi
/-- The blocks handed over are those. -/
def handB (ρ : List Nat) (hl : Nat) : List Nat → AHeap → AHeap → Prop
  | [], [], _ => True
  | b :: bs, c :: cs, H => nthM H b = some (upB ρ hl c) ∧ handB ρ hl bs cs H
  | _, _, _ => False
theorem handB_get {ρ : List Nat} {hl : Nat} {H : AHeap} : ∀ {bs : List Nat} {cs : AHeap}, handB ρ hl bs cs H → bs.length = cs.length ∧ ∀ i (h : i < bs.length) c, cs[i]? = some c → H[bs[i]]? = some (upB ρ hl c)
  | [], [], _ => ⟨rfl, fun i h => by simp at h⟩
  | b :: bs, c :: cs, h => by
    obtain ⟨h1, h2⟩ := handB_get h.2
    refine ⟨by simp [h1], fun i hi c' hc => ?_⟩
    cases i with
    | zero =>
      simp at hc; subst hc
      have := h.1
      rw [nthM_eq] at this
      exact this
    | succ i => exact h2 i (by simpa using hi) c' (by simpa using hc)
  | [], _ :: _, h => h.elim
  | _ :: _, [], h => h.elim
def distR : List Nat → Bool
  | [] => true
  | b :: bs => match memM bs b with | true => false | false => distR bs
theorem distR_iff : ∀ {bs : List Nat}, distR bs = true → bs.Nodup
  | [], _ => List.nodup_nil
  | b :: bs, h => by
    simp only [distR] at h
    split at h
    · cases h
    · rename_i hb
      refine List.nodup_cons.2 ⟨fun hm => ?_, distR_iff h⟩
      rw [memM_iff.2 hm] at hb
      cases hb
theorem nodup_inj {bs : List Nat} (h : bs.Nodup) {i j : Nat} (hi : i < bs.length) (hj : j < bs.length) (e : bs[i] = bs[j]) : i = j := (List.getElem_inj h).1 e
theorem vw_view {k : ABlk} {x : Nat × Nat × (Nat → List AV)} (h : k.vw = some x) : k.view = some x ∨ (∃ vb sh es, k = .mp vb sh es) ∧ x.1 = 0 := by
  cases k with
  | mp vb sh es =>
    simp only [ABlk.vw, Option.some.injEq] at h
    subst h
    exact .inr ⟨⟨_, _, _, rfl⟩, rfl⟩
  | dead => cases h
  | _ => exact .inl h
theorem AFun.sub {args' : List AV} {Hs : AHeap} {ρ : List Nat} {Q : AV → AHeap → Prop} (h : AFun P f args' Hs Q) (hbel : beloL ρ.length args' = true) (hin : inH ρ.length Hs) (hH : handB ρ H.length ρ Hs H) (hd : ρ.Nodup) :
    AFun P f (upL ρ H.length args') H fun v H1 => ∃ u H', Q u H' ∧ v = upV ρ H.length u ∧ layB ρ H.length ρ H' H = some H1 := by
  refine ⟨h.1, fun FM β cs w cargs hv hh => ?_⟩
  obtain ⟨hlen, hget⟩ := handB_get hH
  have hget' : ∀ i (h : i < ρ.length), ∃ c, Hs[i]? = some c ∧ H[ρ[i]]? = some (upB ρ H.length c) := fun i h => by
    have h2 : i < Hs.length := by omega
    exact ⟨Hs[i], by simp [h2], hget i h _ (by simp [h2])⟩
  have hblt : ∀ i (h : i < ρ.length), ρ[i] < H.length := fun i h => by
    obtain ⟨c, _, h2⟩ := hget' i h
    exact (List.getElem?_eq_some_iff.1 h2).1
  let β0 : BMap := fun i g => if i < ρ.length then β (upI ρ H.length i) g else none
  have hβ0 : ∀ i g, i < ρ.length → β0 i g = β (upI ρ H.length i) g := fun i g hi => by simp [β0, hi]
  have hβ0' : ∀ {i g lo}, β0 i g = some lo → ∃ hi : i < ρ.length, β ρ[i] g = some lo := by
    intro i g lo e
    simp only [β0] at e
    split at e
    · rename_i hi
      exact ⟨hi, by rw [upI_lt hi] at e; exact e⟩
    · cases e
  have get0 : ∀ {i : Nat} {c : ABlk}, Hs[i]? = some c → ∃ hi : i < ρ.length, H[ρ[i]]? = some (upB ρ H.length c) := fun {i c} e => by
    have hi : i < ρ.length := by have := (List.getElem?_eq_some_iff.1 e).1; omega
    exact ⟨hi, hget i hi c e⟩
  have r0 : RelH FM β0 Hs w := by
    refine ⟨?_, ?_, ?_, hh.fm, ?_, hh.gk, ⟨?_, ?_⟩⟩
    · intro i c g n row e1 e2
      obtain ⟨hi, e3⟩ := get0 e1
      obtain ⟨row1, e4, e5, e6⟩ := view_upB (ρ := ρ) (hl := H.length) e2
      obtain ⟨lo, q1, q2⟩ := hh.mem _ _ _ _ _ e3 e4
      refine ⟨lo, by rw [hβ0 i g hi, upI_lt hi]; exact q1, ?_⟩
      cases lo with
      | none => exact q2
      | some L =>
        have q2 : MemOk FM β w L n row1 := q2
        obtain ⟨c', ee, fr, c1, c2, c3, c4, c5⟩ := q2.cells
        refine ⟨q2.sz, q2.sh, q2.fit, ⟨c', ee, fr, c1, c2, c3, c4, fun r hr1 hr2 => ?_⟩, q2.free⟩
        obtain ⟨k3, k4⟩ := c5 r hr1 hr2
        rw [e6 r hr2] at k3
        refine ⟨by simpa using k3, fun j hj => ?_⟩
        have hj1 : j < (row1 r).length := by rw [e6 r hr2]; simpa using hj
        obtain ⟨cv, k5, k6⟩ := k4 j hj1
        refine ⟨cv, k5, VR.down hβ0 k6 ?_ (beloL_get (inB_row (inH_get hin e1) e2 r hr2) j hj)⟩
        have : ∀ {l : List AV} (e : row1 r = l) (h1 : j < l.length), (row1 r)[j] = l[j] := by rintro l rfl _; rfl
        rw [this (e6 r hr2) (by simpa using hj), List.getElem_map]
    · intro i1 i2 c1 c2 g1 g2 n1 n2 row1 row2 L1 L2 a1 a2 a3 a4 a5 a6 a7
      obtain ⟨h1, b1⟩ := get0 a1
      obtain ⟨h2, b2⟩ := get0 a4
      obtain ⟨r1, v1, _⟩ := view_upB (ρ := ρ) (hl := H.length) a2
      obtain ⟨r2, v2, _⟩ := view_upB (ρ := ρ) (hl := H.length) a5
      obtain ⟨_, a3⟩ := hβ0' a3
      obtain ⟨_, a6⟩ := hβ0' a6
      exact nodup_inj hd h1 h2 (hh.inj _ _ _ _ _ _ _ _ _ _ L1 L2 b1 v1 a3 b2 v2 a6 a7)
    · intro i c g n row L a1 a2 a3
      obtain ⟨h1, b1⟩ := get0 a1
      obtain ⟨r1, v1, w1, _⟩ := view_upB (ρ := ρ) (hl := H.length) a2
      obtain ⟨_, a3⟩ := hβ0' a3
      rw [← w1]
      exact hh.wid _ _ _ _ _ L b1 v1 a3
    · intro i g lo a1
      obtain ⟨h1, a1⟩ := hβ0' a1
      refine ⟨by omega, fun c g' n row a2 a3 => ?_⟩
      obtain ⟨_, b1⟩ := get0 a2
      obtain ⟨r1, v1, _⟩ := view_upB (ρ := ρ) (hl := H.length) a3
      exact (hh.dom _ _ _ a1).2 _ _ _ _ b1 v1
    · intro i vb sh es a1
      obtain ⟨h1, b1⟩ := get0 a1
      obtain ⟨L, q1, q2⟩ := hh.mp.lies _ _ _ _ b1
      exact ⟨L, by rw [hβ0 i 0 h1, upI_lt h1]; exact q1, q2⟩
    · intro i1 i2 vb vb' sh sh' es es' L L' a1 a2 a3 a4 a5
      obtain ⟨h1, b1⟩ := get0 a1
      obtain ⟨h2, b2⟩ := get0 a3
      obtain ⟨_, a2⟩ := hβ0' a2
      obtain ⟨_, a4⟩ := hβ0' a4
      exact nodup_inj hd h1 h2 (hh.mp.inj _ _ _ _ _ _ _ _ L L' b1 a2 b2 a4 a5)
  have hv0 : VRs FM β0 args' cargs.toList := ⟨by have := hv.1; rw [upL_eq, List.length_map] at this; exact this, fun i hi => by
    have h1 := hv.2 i (by rw [upL_eq, List.length_map]; exact hi)
    refine VR.down hβ0 h1 ?_ (beloL_get hbel i hi)
    simp only [upL_eq, List.getElem_map]⟩
  obtain ⟨v, w', fr, av, FM1, β1, H', hQ, h1, h2, h3, h4, h5, h6⟩ := h.2 FM β0 cs w cargs hv0 r0
  have hHl : ρ.length ≤ H'.length := by have := h3.len; omega
  obtain ⟨H1, l1, l2, l3⟩ := layB_get (ρ := ρ) (hl := H.length) (H := H) hHl hblt hd
  -- what lies where
  let β' : BMap := fun b g => if hb : b ∈ ρ then β1 (ρ.idxOf b) g else if b < H.length then β b g else β1 (ρ.length + (b - H.length)) g
  have hup : ∀ i g, β' (upI ρ H.length i) g = β1 i g := by
    intro i g
    rcases Nat.lt_or_ge i ρ.length with hi | hi
    · rw [upI_lt hi]
      have : ρ[i] ∈ ρ := List.getElem_mem hi
      simp only [β', dif_pos this]
      congr 1
      exact hd.idxOf_getElem i hi
    · rw [upI_ge hi]
      have : H.length + (i - ρ.length) ∉ ρ := fun hm => by
        obtain ⟨j, hj, e⟩ := List.getElem_of_mem hm
        have := hblt j hj
        omega
      simp only [β', dif_neg this, if_neg (show ¬ H.length + (i - ρ.length) < H.length by omega)]
      congr 1
      omega
  have hot : ∀ b g, b < H.length → b ∉ ρ → β' b g = β b g := fun b g hb hn => by simp only [β', dif_neg hn, if_pos hb]
  have hold : ∀ b g lo, β b g = some lo → β' b g = some lo := by
    intro b g lo hb
    have hlt := (hh.dom _ _ _ hb).1
    by_cases hm : b ∈ ρ
    · obtain ⟨i, hi, rfl⟩ := List.getElem_of_mem hm
      rw [← upI_lt (hl := H.length) hi, hup]
      exact h3.bm _ _ _ (by rw [hβ0 i g hi, upI_lt hi]; exact hb)
    · rw [hot b g hlt hm]; exact hb
  have get : ∀ {b : Nat} {k : ABlk}, H1[b]? = some k → (∃ i c, H'[i]? = some c ∧ b = upI ρ H.length i ∧ k = upB ρ H.length c) ∨ (b ∉ ρ ∧ b < H.length ∧ H[b]? = some k) := by
    intro b k hk
    rcases l3 b k hk with ⟨i, hi, c, e1, e2, e3⟩ | ⟨hn, hb, e⟩ | ⟨hb, c, e1, e2⟩
    · exact .inl ⟨i, c, e1, by rw [upI_lt hi]; exact e2, e3⟩
    · refine .inr ⟨fun hm => ?_, hb, e⟩
      obtain ⟨i, hi, e⟩ := List.getElem_of_mem hm
      exact hn i hi e
    · exact .inl ⟨_, c, e1, by rw [upI_ge (by omega)]; omega, e2⟩
  -- an old block that was not handed over
  have sep : ∀ {b : Nat} {k : ABlk} {g n : Nat} {row : Nat → List AV} {L : Loc}, b ∉ ρ → H[b]? = some k → k.vw = some (g, n, row) → β b g = some (some L) → L.cb < w.heap.size ∧ ¬ Img β0 Hs L.cb := by
    intro b k g n row L hn e1 e2 e3
    have obj : ∀ {b : Nat} {k : ABlk} {g n : Nat} {row : Nat → List AV} {L : Loc}, H[b]? = some k → k.vw = some (g, n, row) → β b g = some (some L) → (k.view = some (g, n, row) ∧ ∃ c e fr, w.heap[L.cb]? = some (.cells c e fr)) ∨ ((∃ vb sh es, k = .mp vb sh es) ∧ g = 0 ∧ ∃ es cl, w.heap[L.cb]? = some (.map es cl)) := by
      intro b k g n row L e1 e2 e3
      cases k with
      | mp vb sh es =>
        cases e2
        obtain ⟨L', q1, es', cl, q2, _⟩ := hh.mp.lies _ _ _ _ e1
        rw [e3] at q1
        cases q1
        exact .inr ⟨⟨_, _, _, rfl⟩, rfl, _, _, q2⟩
      | dead => cases e2
      | _ =>
        obtain ⟨lo, q1, q2⟩ := hh.mem _ _ _ _ _ e1 e2
        rw [e3] at q1
        cases q1
        obtain ⟨c, e, fr, c1, _⟩ := MemOk.cells q2
        exact .inl ⟨e2, c, e, fr, c1⟩
    refine ⟨?_, fun hi => ?_⟩
    · rcases obj e1 e2 e3 with ⟨_, c, e, fr, c1⟩ | ⟨_, _, es, cl, c1⟩
      · exact (Array.getElem?_eq_some_iff.1 c1).1
      · exact (Array.getElem?_eq_some_iff.1 c1).1
    · obtain ⟨i, c, g', n', row', L', f1, f2, f3, f4⟩ := hi
      obtain ⟨hi, f5⟩ := get0 f1
      obtain ⟨_, f3⟩ := hβ0' f3
      have f6 : ∃ row'', (upB ρ H.length c).vw = some (g', n', row'') := by
        rcases vw_view f2 with v0 | ⟨⟨vb, sh, es, rfl⟩, _⟩
        · obtain ⟨r1, v1, _⟩ := view_upB (ρ := ρ) (hl := H.length) v0
          exact ⟨r1, ABlk.vw_of v1⟩
        · cases f2; exact ⟨_, rfl⟩
      obtain ⟨row'', f6⟩ := f6
      have hne : ρ[i] ≠ b := fun e => hn (e ▸ List.getElem_mem hi)
      rcases obj e1 e2 e3 with ⟨v1, c1, x1, x2, c2⟩ | ⟨⟨vb, sh, es, rfl⟩, rfl, x1, x2, c2⟩ <;> rcases obj f5 f6 f3 with ⟨v2, c3, x3, x4, c4⟩ | ⟨⟨vb', sh', es', hk⟩, rfl, x3, x4, c4⟩
      · exact hne (hh.inj _ _ _ _ _ _ _ _ _ _ L' L f5 v2 f3 e1 v1 e3 f4)
      · rw [f4, c2] at c4; cases c4
      · rw [f4, c2] at c4; cases c4
      · rw [hk] at f5
        exact hne (hh.mp.inj _ _ _ _ _ _ _ _ L' L f5 f3 e1 e3 f4)
  -- what the callee has lies in its own memory
  have own : ∀ {i : Nat} {c : ABlk} {g n : Nat} {row : Nat → List AV} {L : Loc}, H'[i]? = some c → c.vw = some (g, n, row) → β1 i g = some (some L) → w.heap.size ≤ L.cb ∨ Img β0 Hs L.cb := by
    intro i c g n row L e1 e2 e3
    rcases Nat.lt_or_ge L.cb w.heap.size with hl | hl
    · exact .inr (h3.img _ hl ⟨i, c, g, n, row, L, e1, e2, e3, rfl⟩)
    · exact .inl hl
  refine ⟨v, w', fr, upV ρ H.length av, FM1, β', H1, ⟨av, H', hQ, rfl, l1⟩, h1.up hup, ?_, ?_, h4, h5, h6⟩
  · refine ⟨?_, ?_, ?_, h2.fm, ?_, h2.gk, ⟨?_, ?_⟩⟩
    · intro b k g n row e1 e2
      rcases get e1 with ⟨i, c, q1, rfl, rfl⟩ | ⟨hn, hb, q1⟩
      · obtain ⟨row0, q2, q3, q4⟩ := upB_view e2
        obtain ⟨lo, q5, q6⟩ := h2.mem i c g n row0 q1 q2
        refine ⟨lo, by rw [hup]; exact q5, ?_⟩
        cases lo with
        | none => exact q6
        | some L =>
          have q6 : MemOk FM1 β1 w' L n row0 := q6
          obtain ⟨c', ee, frr, c1, c2, c3, c4, c5⟩ := q6.cells
          refine ⟨q6.sz, q6.sh, q6.fit, ⟨c', ee, frr, c1, c2, c3, c4, fun r hr1 hr2 => ?_⟩, q6.free⟩
          obtain ⟨k3, k4⟩ := c5 r hr1 hr2
          rw [q4 r hr2]
          refine ⟨by simpa using k3, fun j hj => ?_⟩
          obtain ⟨cv, k5, k6⟩ := k4 j (by simpa using hj)
          refine ⟨cv, k5, ?_⟩
          rw [List.getElem_map]
          exact k6.up hup
      · obtain ⟨lo, q2, q3⟩ := hh.mem b k g n row q1 e2
        refine ⟨lo, hold _ _ _ q2, ?_⟩
        cases lo with
        | none => exact q3
        | some L =>
          have q3 : MemOk FM β w L n row := q3
          obtain ⟨s1, s2⟩ := sep hn q1 (ABlk.vw_of e2) q2
          obtain ⟨c', ee, frr, c1, c2, c3, c4, c5⟩ := q3.cells
          refine ⟨q3.sz, q3.sh, q3.fit, ⟨c', ee, frr, by rw [h3.frame _ s1 s2]; exact c1, c2, c3, c4, fun r hr1 hr2 => ?_⟩, fun o => ?_⟩
          · obtain ⟨k3, k4⟩ := c5 r hr1 hr2
            refine ⟨k3, fun j hj => ?_⟩
            obtain ⟨cv, k5, k6⟩ := k4 j hj
            exact ⟨cv, k5, k6.mono h3.fm hold⟩
          · cases hx : FM1 L.cb o with
            | none => rfl
            | some x =>
              rcases h3.fmn _ _ _ hx with hx | hx | hx
              · rw [q3.free o] at hx; cases hx
              · omega
              · exact absurd hx s2
    · intro b1 b2 k1 k2 g1 g2 n1 n2 row1 row2 L1 L2 e1 e2 e3 e4 e5 e6 e7
      rcases get e1 with ⟨i, c, q1, rfl, rfl⟩ | ⟨hn, hb, q1⟩ <;> rcases get e4 with ⟨i', c', q1', rfl, rfl⟩ | ⟨hn', hb', q1'⟩
      · obtain ⟨_, v1, _⟩ := upB_view e2
        obtain ⟨_, v2, _⟩ := upB_view e5
        rw [hup] at e3 e6
        rw [h2.inj _ _ _ _ _ _ _ _ _ _ L1 L2 q1 v1 e3 q1' v2 e6 e7]
      · obtain ⟨_, v1, _⟩ := upB_view e2
        rw [hup] at e3
        rw [hot _ _ hb' hn'] at e6
        obtain ⟨s1, s2⟩ := sep hn' q1' (ABlk.vw_of e5) e6
        rcases own q1 (ABlk.vw_of v1) e3 with o1 | o1
        · omega
        · rw [e7] at o1; exact absurd o1 s2
      · obtain ⟨_, v2, _⟩ := upB_view e5
        rw [hup] at e6
        rw [hot _ _ hb hn] at e3
        obtain ⟨s1, s2⟩ := sep hn q1 (ABlk.vw_of e2) e3
        rcases own q1' (ABlk.vw_of v2) e6 with o1 | o1
        · omega
        · rw [← e7] at o1; exact absurd o1 s2
      · rw [hot _ _ hb hn] at e3
        rw [hot _ _ hb' hn'] at e6
        exact hh.inj _ _ _ _ _ _ _ _ _ _ L1 L2 q1 e2 e3 q1' e5 e6 e7
    · intro b k g n row L e1 e2 e3
      rcases get e1 with ⟨i, c, q1, rfl, rfl⟩ | ⟨hn, hb, q1⟩
      · obtain ⟨_, v1, w1, _⟩ := upB_view e2
        rw [hup] at e3
        rw [w1]
        exact h2.wid _ _ _ _ _ L q1 v1 e3
      · rw [hot _ _ hb hn] at e3
        exact hh.wid _ _ _ _ _ L q1 e2 e3
    · intro b g lo e
      have hdom : ∀ k g' n row, H1[b]? = some k → k.view = some (g', n, row) → g ≤ g' := by
        intro k g' n row q1 q2
        rcases get q1 with ⟨i, c, q3, rfl, rfl⟩ | ⟨hn, hb, q3⟩
        · obtain ⟨_, v1, _⟩ := upB_view q2
          rw [hup] at e
          exact (h2.dom _ _ _ e).2 _ _ _ _ q3 v1
        · rw [hot _ _ hb hn] at e
          exact (hh.dom _ _ _ e).2 _ _ _ _ q3 q2
      refine ⟨?_, fun k g' n row => hdom k g' n row⟩
      rcases Nat.lt_or_ge b H.length with hb | hb
      · omega
      · have hn : b ∉ ρ := fun hm => by
          obtain ⟨j, hj, e⟩ := List.getElem_of_mem hm
          have := hblt j hj
          omega
        simp only [β', dif_neg hn, if_neg (Nat.not_lt.2 hb)] at e
        have := (h2.dom _ _ _ e).1
        omega
    · intro b vb sh es e1
      rcases get e1 with ⟨i, c, q1, rfl, q2⟩ | ⟨hn, hb, q1⟩
      · have := upB_mp q2.symm
        subst this
        obtain ⟨L, q3, q4⟩ := h2.mp.lies _ _ _ _ q1
        exact ⟨L, by rw [hup]; exact q3, q4⟩
      · obtain ⟨L, q3, ents, cl, q4, q5⟩ := hh.mp.lies _ _ _ _ q1
        obtain ⟨s1, s2⟩ := sep hn q1 rfl q3
        exact ⟨L, hold _ _ _ q3, ents, cl, by rw [h3.frame _ s1 s2]; exact q4, q5⟩
    · intro b1 b2 vb vb' sh sh' es es' L L' e1 e2 e3 e4 e5
      rcases get e1 with ⟨i, c, q1, rfl, q2⟩ | ⟨hn, hb, q1⟩ <;> rcases get e3 with ⟨i', c', q1', rfl, q2'⟩ | ⟨hn', hb', q1'⟩
      · have := upB_mp q2.symm; subst this
        have := upB_mp q2'.symm; subst this
        rw [hup] at e2 e4
        rw [h2.mp.inj _ _ _ _ _ _ _ _ L L' q1 e2 q1' e4 e5]
      · have := upB_mp q2.symm; subst this
        rw [hup] at e2
        rw [hot _ _ hb' hn'] at e4
        obtain ⟨s1, s2⟩ := sep hn' q1' rfl e4
        rcases own q1 rfl e2 with o1 | o1
        · omega
        · rw [e5] at o1; exact absurd o1 s2
      · have := upB_mp q2'.symm; subst this
        rw [hup] at e4
        rw [hot _ _ hb hn] at e2
        obtain ⟨s1, s2⟩ := sep hn q1 rfl e2
        rcases own q1' rfl e4 with o1 | o1
        · omega
        · rw [← e5] at o1; exact absurd o1 s2
      · rw [hot _ _ hb hn] at e2
        rw [hot _ _ hb' hn'] at e4
        exact hh.mp.inj _ _ _ _ _ _ _ _ L L' q1 e2 q1' e4 e5
  · have im0 : ∀ cb, Img β0 Hs cb → Img β H cb := by
      rintro cb ⟨i, c, g, n, row, L, e1, e2, e3, e4⟩
      obtain ⟨hi, e5⟩ := get0 e1
      obtain ⟨_, e3⟩ := hβ0' e3
      rcases vw_view e2 with v0 | ⟨⟨vb, sh, es, rfl⟩, _⟩
      · obtain ⟨r1, v1, _⟩ := view_upB (ρ := ρ) (hl := H.length) v0
        exact ⟨_, _, _, _, _, L, e5, ABlk.vw_of v1, e3, e4⟩
      · cases e2; exact ⟨_, _, _, _, _, L, e5, rfl, e3, e4⟩
    refine ⟨h3.fm, hold, h3.size, fun cb hl hi => ?_, fun cb hl hi => h3.frame cb hl fun h => hi (im0 cb h), fun cb o x hx => ?_, by omega, h3.os, h3.output, h3.tape⟩
    · obtain ⟨b, k, g, n, row, L, e1, e2, e3, e4⟩ := hi
      rcases get e1 with ⟨i, c, q1, rfl, rfl⟩ | ⟨hn, hb, q1⟩
      · rw [hup] at e3
        have : ∃ row0, c.vw = some (g, n, row0) := by
          rcases vw_view e2 with v0 | ⟨⟨vb, sh, es, hk⟩, _⟩
          · obtain ⟨r0, v1, _⟩ := upB_view v0
            exact ⟨r0, ABlk.vw_of v1⟩
          · have := upB_mp hk; subst this; cases e2; exact ⟨_, rfl⟩
        obtain ⟨row0, v1⟩ := this
        rcases own q1 v1 e3 with o1 | o1
        · omega
        · rw [e4] at o1; exact im0 cb o1
      · rw [hot _ _ hb hn] at e3
        exact ⟨b, k, g, n, row, L, q1, e2, e3, e4⟩
    · rcases h3.fmn _ _ _ hx with hx | hx | hx
      · exact .inl hx
      · exact .inr (.inl hx)
      · exact .inr (.inr (im0 _ hx))
end Pf
/- Calls of functions whose contract is over some of the blocks (GR), and how such a contract is shown: what is left over is dropped at the end. -/
namespace Pf
open Go
variable {P : Program} {TT : TypeId → Option TI} {f N n0 : Nat} {k : List Item} {T : Env} {H : AHeap} {R : AV → AHeap → Prop} {nf : Nat} {ops : Array Oper} {past op pend pend' : List Nat} {vin ws : List (Option Nat × AV)} {ps : List Prop} {cl : List (FuncId × List AV × AV)}

/-- A call; 'ρ': which blocks are handed over, by the numbers that the callee has for them. -/
theorem go_callS {rs : List ResultVar} (W : Walk P TT f rs) (m n : Nat) (ρ : List Nat) {cs : List Prop} {g : FuncId} {args args' : List AV} {dst : Option Nat} {k' : List Item} {T' : Env} {H' Hs : AHeap} {Q : AV → AHeap → Prop}
    (h : exec TT N rs m n [] k T H = .call cs g args dst k' T' H') (hc : AllC cs) (hq : AFun P g args' Hs Q) (ea : args = upL ρ (lenM H') args') (hbel : beloL (lenM ρ) args' = true) (hin : inH (lenM ρ) Hs) (hH : handB ρ (lenM H') ρ Hs H') (hd : distR ρ = true)
    (h1 : ∀ u H2, Q u H2 → ∃ T1 H1, dstM N dst (upV ρ (lenM H') u) T' = some T1 ∧ layB ρ (lenM H') ρ H2 H' = some H1 ∧ AGo P f N n0 k' T1 H1 R) : AGo P f N n0 k T H R := by
  simp only [lenM_eq] at *
  subst ea
  refine go_call W m n h hc (hq.sub hbel hin hH (distR_iff hd)) fun v H1 ⟨u, H2, r1, r2, r3⟩ => ?_
  obtain ⟨T1, H1', q1, q2, q3⟩ := h1 u H2 r1
  rw [r3] at q2
  cases q2
  subst r2
  exact ⟨T1, q1, q3⟩

/-- What is handed back, the blocks from n on being dropped. -/
def Trim (n : Nat) (Q : AV → AHeap → Prop) (v : AV) (H : AHeap) : Prop := ∃ u cs H1, Sub v u ∧ belo n u = true ∧ dropM n n H = some (cs, H1) ∧ AllC cs ∧ Q u H1
theorem AFun.trim {args : List AV} {Hs : AHeap} {Q : AV → AHeap → Prop} (n : Nat) (h : AFun P f args Hs (Trim n Q)) (hn : Hs.length ≤ n) : AFun P f args Hs Q := by
  refine ⟨h.1, fun FM β cs w cargs hv hh => ?_⟩
  obtain ⟨v, w', fr, av, FM1, β1, H1, ⟨u, cs', H2, hs, hbe, e3, hc, hq⟩, h1, hH, h3, h4, h5, h6⟩ := h.2 FM β cs w cargs hv hh
  obtain ⟨rfl, hle, hbl⟩ := dropM_ok e3 hc
  let β2 : BMap := fun b g => if b < n then β1 b g else none
  have hβ : ∀ b g, b < n → β2 b g = β1 b g := fun b g hb => by simp [β2, hb]
  have get : ∀ {i : Nat} {blk : ABlk}, (H1.take n)[i]? = some blk → i < n ∧ H1[i]? = some blk := by
    intro i blk hi
    rw [List.getElem?_take] at hi
    split at hi
    · rename_i h1; exact ⟨h1, hi⟩
    · cases hi
  have sub : ∀ {i g : Nat} {lo : Option Loc}, β2 i g = some lo → i < n ∧ β1 i g = some lo := by
    intro i g lo hi
    simp only [β2] at hi
    split at hi
    · rename_i h1; exact ⟨h1, hi⟩
    · cases hi
  have hR : RelH FM1 β2 (H1.take n) w' := by
    have hmp : MapsOk β2 (H1.take n) w' := ⟨fun b1 vb sh es h => by
        obtain ⟨hi, h1⟩ := get h
        obtain ⟨L, q1, q2⟩ := hH.mp.lies b1 vb sh es h1
        exact ⟨L, by rw [hβ _ _ hi]; exact q1, q2⟩, fun b1 b2 vb vb' sh sh' es es' L L' h1 h2 h3 h4 h5 => hH.mp.inj b1 b2 vb vb' sh sh' es es' L L' (get h1).2 (sub h2).2 (get h3).2 (sub h4).2 h5⟩
    refine ⟨?_, ?_, ?_, hH.fm, ?_, hH.gk, hmp⟩
    · intro i blk g m row h1 h2
      obtain ⟨hi, h1⟩ := get h1
      obtain ⟨lo, q1, q2⟩ := hH.mem i blk g m row h1 h2
      refine ⟨lo, by rw [hβ _ _ hi]; exact q1, ?_⟩
      cases lo with
      | none => exact q2
      | some L =>
        have q2 : MemOk FM1 β1 w' L m row := q2
        obtain ⟨c, ee, fr, c1, c2, c3, c4, c5⟩ := q2.cells
        refine ⟨q2.sz, q2.sh, q2.fit, ⟨c, ee, fr, c1, c2, c3, c4, fun r hr1 hr2 => ?_⟩, q2.free⟩
        obtain ⟨k3, k4⟩ := c5 r hr1 hr2
        obtain ⟨C, b1, b2⟩ := hbl i blk hi h1
        have hrow := beloB_row b1 b2 h2 r hr2
        refine ⟨k3, fun j hj => ?_⟩
        obtain ⟨cv, k5, k6⟩ := k4 j hj
        exact ⟨cv, k5, k6.belo (n := n) (fun b g hb => hβ b g hb) (beloL_get hrow j hj)⟩
    · intro b1 b2 k1 k2 g1 g2 n1 n2 row1 row2 L1 L2 h1 h2 h3 h4 h5 h6 h7
      exact hH.inj b1 b2 k1 k2 g1 g2 n1 n2 row1 row2 L1 L2 (get h1).2 h2 (sub h3).2 (get h4).2 h5 (sub h6).2 h7
    · intro i blk g m row L h1 h2 h3
      exact hH.wid i blk g m row L (get h1).2 h2 (sub h3).2
    · intro i g lo hi
      obtain ⟨q1, q2⟩ := sub hi
      refine ⟨by rw [List.length_take]; omega, fun blk g' m row h1 h2 => (hH.dom i g lo q2).2 blk g' m row (get h1).2 h2⟩
  refine ⟨v, w', fr, u, FM1, β2, H1.take n, hq, (hs _ _ _ h1).belo (n := n) (fun b g hb => hβ b g hb) hbe, hR, ?_, h4, h5, h6⟩
  exact ⟨h3.fm, fun b g lo e => by rw [hβ _ _ (Nat.lt_of_lt_of_le (hh.dom _ _ _ e).1 hn)]; exact h3.bm _ _ _ e, h3.size, fun cb hl i => by
      obtain ⟨i', blk, g, m, row, L, q1, q2, q3, q4⟩ := i
      exact h3.img cb hl ⟨i', blk, g, m, row, L, (get q1).2, q2, (sub q3).2, q4⟩, h3.frame, h3.fmn, by rw [List.length_take]; omega, h3.os, h3.output, h3.tape⟩
theorem go_retS {rs : List ResultVar} (W : Walk P TT f rs) (m n nb : Nat) {Q : AV → AHeap → Prop} {cs qs : List Prop} {v : AV} {H' H1 : AHeap} (h : exec TT N rs m n [] k T H = .ret cs v H') (hc : AllC cs) (hd : dropM nb nb H' = some (qs, H1)) (hcs : AllC qs)
    (u : AV) (hs : Sub v u) (hb : belo nb u = true) (hq : Q u H1) : AGo P f N n0 k T H (Trim nb Q) :=
  go_ret W m n h hc ⟨u, qs, H1, hs, hb, hd, hcs, hq⟩
end Pf
/- Functions of the library that write the texts of a block (Sort, Compact). -/
namespace Pf
open Go Go.RowKit Go.Sort Go.Proofs
variable {P : Program} {f : FuncId}
/-- Rows of texts. -/
def tbRow (L : List (List UInt8)) (i : Nat) : List AV := [.str (L.getD i [])]
/-- What such a function hands back: nothing, or the slice cut. -/
def tbRes (m : Option Nat) (a : Option Addr) (cap : Nat) : Value := match m with | none => .tuple #[] | some k => .slice a k cap
def tbVal (g : Nat) : Option Nat → AV | none => .tup [] | some k => .sl 0 g 0 k
theorem VR.str_inv {FM : FMem} {β : BMap} {s : List UInt8} {v : Value} (h : VR FM β (.str s) v) : v = .string ⟨s.toArray⟩ := by
  cases h with
  | @str _ _ b h => subst h; simp
theorem tb_heap (w : World) (q blk : Nat) (d : Array (List UInt8)) (os : Array Obj) (cb : Nat) (h : cb < w.heap.size) :
    (grow (putRow encStr (ahead w q) blk 0 d) os).heap[cb]? = if blk = cb then (w.heap[cb]?).map (onCells (putCells encStr 0 d)) else w.heap[cb]? := by
  have h1 : cb < (w.heap.modify blk (onCells (putCells encStr 0 d))).size := by simpa using h
  show (w.heap.modify blk (onCells (putCells encStr 0 d)) ++ os)[cb]? = _
  rw [Array.getElem?_append_left h1, Array.getElem?_modify]
theorem AFun.of_texts {ts ds : List (List UInt8)} {m : Option Nat} (g0 : Nat) (hl : ds.length = ts.length) (hm : ∀ k, m = some k → k ≤ ts.length) (he : Enters P f)
    (h0 : ∀ w a cap, ts.length = 0 → Calls P f #[.slice a 0 cap] w fun e w' => e = .returned (tbRes (m.map fun _ => 0) a cap) ∧ w' = w)
    (h : ∀ w blk cap, 0 < ts.length → ts.length ≤ cap → Sort.Holds encStr w blk 0 ts.toArray → blk < w.heap.size →
      Calls P f #[.slice (some ⟨blk, 0, none⟩) ts.length cap] w fun e w' => e = .returned (tbRes m (some ⟨blk, 0, none⟩) cap) ∧ ∃ q os, w' = grow (putRow encStr (ahead w q) blk 0 ds.toArray) os) :
    AFun P f [.sl 0 g0 0 ts.length] [.tab g0 ts.length (tbRow ts)] (fun v H => v = tbVal g0 m ∧ H = [.tab g0 ts.length (tbRow ds)]) := by
  refine ⟨he, fun FM β cs w cargs hv hh => ?_⟩
  have hsz : cargs.size = 1 := by simpa using hv.1.symm
  obtain ⟨cv, rfl⟩ : ∃ cv, cargs = #[cv] := by
    obtain ⟨l⟩ := cargs
    match l, hsz with
    | [x], _ => exact ⟨x, rfl⟩
  have hv1 : VR FM β (.sl 0 g0 0 ts.length) cv := by
    have := hv.2 0 (by simp)
    simpa using this
  rcases Nat.eq_zero_or_pos ts.length with hz | hp
  · -- no texts
    have hd0 : ds = [] := List.eq_nil_of_length_eq_zero (by omega)
    have ht0 : ts = [] := List.eq_nil_of_length_eq_zero hz
    subst hd0; subst ht0
    obtain ⟨a, cap, rfl⟩ : ∃ a cap, cv = .slice a 0 cap := by
      cases hv1 with
      | sl => exact ⟨_, _, rfl⟩
      | sl0 => exact ⟨_, _, rfl⟩
    obtain ⟨e, w', fr, ⟨rfl, rfl⟩, hc, hfn, hlv⟩ := h0 w a cap rfl cs
    refine ⟨_, _, fr, tbVal g0 m, FM, β, _, ⟨rfl, rfl⟩, ?_, hh, .refl, hc, hfn, hlv⟩
    cases m with
    | none => exact .tup rfl fun i h => absurd h (Nat.not_lt_zero _)
    | some k =>
      have := hm k rfl
      obtain rfl : k = 0 := by simpa using this
      exact hv1
  · have hblk : ([.tab g0 ts.length (tbRow ts)] : AHeap)[0]? = some (.tab g0 ts.length (tbRow ts)) := rfl
    obtain ⟨L, cap, rfl, hβ, hs0, hr, hcap⟩ : ∃ L cap, cv = .slice (some ⟨L.cb, 0, none⟩) ts.length cap ∧ β 0 g0 = some (some L) ∧ L.sh = 0 ∧ cap ≤ L.n ∧ ts.length ≤ cap := by
      have key : ∀ {n : Nat}, VR FM β (.sl 0 g0 0 n) cv → 0 < n → ∃ L cap, cv = .slice (some ⟨L.cb, 0, none⟩) n cap ∧ β 0 g0 = some (some L) ∧ L.sh = 0 ∧ cap ≤ L.n ∧ n ≤ cap := by
        intro n hv hn
        cases hv with
        | @sl _ _ _ _ _ cap L h1 hs hr hc hp' =>
          have : L.sh = 0 := by omega
          exact ⟨L, cap, by simp, h1, this, by omega, hc⟩
        | sl0 => omega
      exact key hv1 hp
    obtain ⟨lo, hlo, hmem⟩ := hh.mem _ _ _ _ _ hblk rfl
    rw [hβ] at hlo; cases hlo
    have hw : L.sz = 1 := hh.wid _ _ _ _ _ _ hblk rfl hβ
    have hmem : MemOk FM β w L ts.length (tbRow ts) := hmem
    obtain ⟨c, elem, fr, hc1, hc2, hc3, hc4, hc5⟩ := hmem.cells
    have hcb : L.cb < w.heap.size := (Array.getElem?_eq_some_iff.1 hc1).1
    have cell : ∀ j, j < ts.length → c[j]? = some (encStr (ts.getD j [])) := by
      intro j hj
      obtain ⟨q1, q2⟩ := hc5 j (by omega) hj
      obtain ⟨v, q3, q4⟩ := q2 0 (by rw [q1]; omega)
      rw [hs0, hw, show (j - 0) * 1 + 0 = j by omega] at q3
      rw [q3]
      have q5 : VR FM β (.str (ts.getD j [])) v := q4
      rw [q5.str_inv]
    have hold : Sort.Holds encStr w L.cb 0 ts.toArray := by
      intro j hj
      have hj : j < ts.length := by simpa using hj
      have e1 : ts.toArray[j]! = ts.getD j [] := by simp [List.getD_eq_getElem?_getD, hj]
      refine ⟨?_, ?_⟩
      · simp only [World.cell?, hc1, Nat.zero_add, e1]
        exact cell j hj
      · have hjc : j < c.size := (Array.getElem?_eq_some_iff.1 (cell j hj)).1
        have := hc3 j hjc
        simp only [World.frozen?, hc1, Nat.zero_add]
        simpa using this
    obtain ⟨e, w', frm, ⟨rfl, q, os, rfl⟩, hcs, hfn, hlv⟩ := h w L.cb cap hp hcap hold hcb cs
    have hin : ∀ cb, cb < w.heap.size → cb ≠ L.cb → (grow (putRow encStr (ahead w q) L.cb 0 ds.toArray) os).heap[cb]? = w.heap[cb]? := fun cb h1 h2 => by
      rw [tb_heap w q L.cb _ os cb h1, if_neg (Ne.symm h2)]
    have hput : (grow (putRow encStr (ahead w q) L.cb 0 ds.toArray) os).heap[L.cb]? = some (.cells (putCells encStr 0 ds.toArray c) elem fr) := by
      rw [tb_heap w q L.cb _ os L.cb hcb, if_pos rfl, hc1]; rfl
    have one : ∀ {b : Nat} {blk : ABlk} {t : Nat → List AV}, ([.tab g0 ts.length t] : AHeap)[b]? = some blk → b = 0 ∧ blk = .tab g0 ts.length t := by
      intro b blk t hb
      cases b with
      | zero => simp at hb; exact ⟨rfl, hb.symm⟩
      | succ b => simp at hb
    have hm' : MemOk FM β (grow (putRow encStr (ahead w q) L.cb 0 ds.toArray) os) L ts.length (tbRow ds) := by
      refine ⟨hmem.sz, hmem.sh, hmem.fit, ⟨_, elem, fr, hput, by simpa [putCells] using hc2, by simpa [putCells] using hc3, fun k v hk => ?_, fun r h1 h2 => ⟨hw.symm, fun j hj => ?_⟩⟩, hmem.free⟩
      · simp only [putCells, Array.getElem?_mapIdx] at hk
        cases hck : c[k]? with
        | none => simp [hck] at hk
        | some y =>
          simp only [hck, Option.map_some, Option.some.injEq] at hk
          split at hk
          · subst hk; rfl
          · subst hk; exact hc4 _ _ hck
      · have hj0 : j = 0 := by simp [tbRow] at hj; exact hj
        subst hj0
        refine ⟨encStr (ds.getD r []), ?_, .str rfl⟩
        rw [hs0, hw, show (r - 0) * 1 + 0 = r by omega]
        simp only [putCells, Array.getElem?_mapIdx, cell r h2, Option.map_some]
        have hrd : r < ds.length := by omega
        rw [if_pos ⟨Nat.zero_le _, by simpa using hrd⟩]
        simp [List.getD_eq_getElem?_getD, hrd]
    have hrel : RelH FM β [.tab g0 ts.length (tbRow ds)] (grow (putRow encStr (ahead w q) L.cb 0 ds.toArray) os) := by
      refine ⟨fun b blk g n row h1 h2 => ?_, fun b b' blk blk' g g' n n' row row' L L' h1 _ _ h2 _ _ _ => ?_, fun b blk g n row L1 h1 h2 h3 => ?_, fun cb o v h1 => ?_, fun b g lo h1 => ?_, hh.gk, ⟨fun b vb sh es h1 => ?_, fun b b' vb vb' sh sh' es es' L L' h1 => ?_⟩⟩
      · obtain ⟨rfl, rfl⟩ := one h1
        cases h2
        exact ⟨_, hβ, hm'⟩
      · rw [(one h1).1, (one h2).1]
      · obtain ⟨rfl, rfl⟩ := one h1
        cases h2
        rw [hβ] at h3; cases h3
        exact hw
      · have h2 := hh.fm _ _ _ h1
        have hne : cb ≠ L.cb := fun e => by rw [e, hmem.free o] at h1; cases h1
        have hlt : cb < w.heap.size := by
          simp only [World.cell?] at h2
          cases h3 : w.heap[cb]? with
          | none => simp [h3] at h2
          | some c => exact (Array.getElem?_eq_some_iff.1 h3).1
        simp only [World.cell?] at h2 ⊢
        rw [hin cb hlt hne]
        exact h2
      · obtain ⟨d1, d2⟩ := hh.dom _ _ _ h1
        refine ⟨d1, fun blk g' n row h2 h3 => ?_⟩
        obtain ⟨rfl, rfl⟩ := one h2
        cases h3
        exact d2 _ _ _ _ hblk rfl
      · cases (one h1).2
      · cases (one h1).2
    have himg : ∀ cb t, Img β [.tab g0 ts.length t] cb → cb = L.cb := by
      rintro cb t ⟨b, blk, g, n, row, L1, h1, h2, h3, h4⟩
      obtain ⟨rfl, rfl⟩ := one h1
      cases h2
      rw [hβ] at h3; cases h3
      exact h4.symm
    have himg0 : Img β [.tab g0 ts.length (tbRow ts)] L.cb := ⟨0, _, _, _, _, L, hblk, rfl, hβ, rfl⟩
    refine ⟨_, _, frm, tbVal g0 m, FM, β, _, ⟨rfl, rfl⟩, ?_, hrel, ⟨fun _ _ _ h => h, fun _ _ _ h => h, by simp, fun cb h1 h2 => by rw [himg _ _ h2]; exact himg0, fun cb h1 h2 => hin cb h1 (fun e => h2 (e ▸ himg0)), fun _ _ _ h => .inl h, Nat.le_refl _, rfl, rfl, rfl⟩, hcs, hfn, hlv⟩
    cases m with
    | none => exact .tup rfl fun i h => absurd h (Nat.not_lt_zero _)
    | some k =>
      have hk := hm k rfl
      have := VR.sl (FM := FM) (β := β) (b := 0) (g := g0) (off := 0) (len := k) (cap := cap) (L := L) hβ (by omega) (by omega) (by omega) (by omega)
      rw [hw, hs0] at this
      exact this
end Pf
/- Lists of texts in the laws: marks, equality -/
namespace Pf
open Go Go.Proofs
/-- The digits of a number ahead of a text (f: no less than the number). -/
def mtF : Nat → Nat → List UInt8 → List UInt8
  | 0, _, out => out
  | f + 1, k, out => if k = 0 then out else mtF f (k / 10) (bytesT [48 + (k : Int) % 10] ++ out)
/-- The text that marks the place k. -/
def mt (k : Nat) : List UInt8 := [109] ++ mtF k k []
theorem mtF_zero (f : Nat) (out : List UInt8) : mtF f 0 out = out := by cases f <;> simp [mtF]
theorem markText_ok (k : Nat) (h1 : 1 ≤ k) (h2 : k ≤ 1099511627776) : AFunP Tryz.prog 50 [.int .i64 k] (· = .str (mt k)) := by
  refine afun_of Tryz.func50 Tryz.call50 rfl Tryz.ntmps50 rfl ?_
  have W : Walk Tryz.prog TT 50 _ := Walk.of TT_ok Tryz.func50 Tryz.results50
  refine sp W 0 rfl rfl rfl (fun h0 => ?_) (fun h0 => ?_)
  · exfalso; omega
  refine lp W 0 (σ := Nat × Nat × List UInt8) (fun s => [(0, .int .i64 s.2.1), (3, .str s.2.2)]) (fun _ => []) (fun s => s.1) (fun s => s.2.1 ≤ s.1 ∧ s.2.2.length + s.2.1 ≤ k ∧ mtF s.1 s.2.1 s.2.2 = mtF k k []) (k, k, []) [0, 3] rfl rfl rfl ⟨Nat.le_refl _, by simp, rfl⟩ ?_
  rintro ⟨f, j, out⟩ ⟨hf, hj, he⟩ ih
  dsimp only at hf hj he ih ⊢
  refine sp W 0 rfl rfl rfl (fun h3 => ?_) (fun h3 => ?_)
  · have hb : ∀ n : Int, (bytesT [n]).length = 1 := fun n => rfl
    have hj1 : 0 < j := by omega
    have hbl := hb (48 + (j : Int) % 10)
    obtain ⟨f, rfl⟩ : ∃ g, f = g + 1 := ⟨f - 1, by omega⟩
    have e : mtF f (j / 10) (bytesT [48 + (j : Int) % 10] ++ out) = mtF k k [] := by
      rw [← he]
      simp only [mtF]
      rw [if_neg (by omega)]
    refine bd W 0 0 [0, 3] rfl rfl rfl rfl rfl (ih (f, j / 10, bytesT [48 + (j : Int) % 10] ++ out) ⟨by dsimp only; omega, by dsimp only; rw [List.length_append, hb]; omega, e⟩ (by dsimp only; omega))
  · have hj0 : j = 0 := by omega
    subst hj0
    rw [mtF_zero] at he
    refine rp W 0 rfl rfl rfl (.eq (by unfold mt; rw [← he]))
theorem eqStringS_ok (n m : Nat) (r s : Nat → List UInt8) (hn : n ≤ 1099511627776) (hm : m ≤ 1099511627776) : AFunP Tryz.prog 18 [.fz n fun i => [.str (r i)], .fz m fun i => [.str (s i)]] (· = .pr (n = m ∧ ∀ i, i < n → r i = s i)) := by
  refine afun_of Tryz.func18 Tryz.call18 rfl Tryz.ntmps18 rfl ?_
  have W : Walk Tryz.prog TT 18 _ := Walk.of TT_ok Tryz.func18 Tryz.results18
  refine sp W 0 rfl rfl rfl (fun h1 => ?_) (fun h1 => ?_)
  · refine rp W 0 rfl rfl rfl (.no (fun k => by have := k.1; omega))
  have h1 : n = m := by omega
  refine lp W 0 (σ := Nat) (fun i => [(0, .fz n fun i => [.str (r i)]), (1, .fz m fun i => [.str (s i)]), (5, .int .i64 i)]) (fun _ => []) (fun i => n - i) (fun i => i ≤ n ∧ ∀ j, j < i → r j = s j) 0 [0, 1, 5] rfl rfl rfl ⟨Nat.zero_le _, fun j hj => by omega⟩ ?_
  rintro i ⟨hi, he⟩ ih
  refine sp W 0 rfl rfl rfl (fun h2 => ?_) (fun h2 => ?_)
  · have h2 : i < n := by omega
    refine dre W 0 8 [] [] rfl rfl rfl trivial rfl ?_
    refine sp W 0 rfl rfl rfl (fun h3 => ?_) (fun h3 => ?_)
    · refine rp W 0 rfl rfl rfl (.no (fun k => h3 (k.2 i h2)))
    · refine bd W 0 0 [0, 1, 5] rfl rfl rfl rfl rfl (ih (i + 1) ⟨by omega, fun j hj => ?_⟩ (by omega))
      by_cases hji : j = i
      · subst hji; exact Classical.not_not.1 h3
      · exact he j (by omega)
  · refine rp W 0 rfl rfl rfl (.yes ⟨h1, fun j hj => he j (by omega)⟩)
theorem heldStringS_ok (n k : Nat) (r : Nat → List UInt8) (hn : n ≤ 1048576000) (h1 : 1 ≤ k) (hk : k ≤ 1048576000) (hr : ∀ i, i < n → r i = mt (k + i)) : AFunP Tryz.prog 22 [.fz n fun i => [.str (r i)], .int .i64 k] (· = .int .i64 (k + n : Nat)) := by
  refine afun_of Tryz.func22 Tryz.call22 rfl Tryz.ntmps22 rfl ?_
  have W : Walk Tryz.prog TT 22 _ := Walk.of TT_ok Tryz.func22 Tryz.results22
  refine lp W 0 (σ := Nat) (fun i => [(0, .fz n fun i => [.str (r i)]), (1, .int .i64 (k + i : Nat)), (5, .int .i64 i)]) (fun _ => []) (fun i => n - i) (fun i => i ≤ n) 0 [0, 1, 5] rfl rfl rfl (Nat.zero_le _) ?_
  rintro i hi ih
  refine sp W 0 rfl rfl rfl (fun h2 => ?_) (fun h2 => ?_)
  · have h2 : i < n := by omega
    have km := markText_ok (k + i) (by omega) (by omega)
    have hri := hr i h2
    refine dre W 0 6 [] [.str (mt (k + i))] rfl rfl rfl ⟨km.at rfl _, trivial⟩ rfl ?_
    refine sp W 0 rfl rfl rfl (fun h3 => ?_) (fun h3 => ?_)
    · exact absurd hri h3
    · refine bd W 0 0 [0, 1, 5] rfl rfl rfl rfl rfl (ih (i + 1) (by omega) (by omega))
  · have e : i = n := by omega
    subst e
    refine rp W 0 rfl rfl rfl (.refl)
theorem markStringS_ok (g n k N : Nat) (r : Nat → List UInt8) (hn : n ≤ N) (hN : N ≤ 1048576000) (h1 : 1 ≤ k) (hk : k ≤ 1048576000) : AFun Tryz.prog 21 [.sl 0 g 0 n, .int .i64 k] [.tab g N fun i => [.str (r i)]] fun u H => u = .int .i64 (k + n : Nat) ∧ ∃ r' : Nat → List UInt8, H = [.tab g N fun i => [.str (r' i)]] ∧ ∀ i, i < n → r' i = mt (k + i) := by
  refine afun_of Tryz.func21 Tryz.call21 rfl Tryz.ntmps21 rfl ?_
  have W : Walk Tryz.prog TT 21 _ := Walk.of TT_ok Tryz.func21 Tryz.results21
  refine lp W 0 (σ := Nat × (Nat → List UInt8)) (fun s => [(0, .sl 0 g 0 n), (1, .int .i64 (k + s.1 : Nat)), (5, .int .i64 s.1)]) (fun s => [.tab g N fun i => [.str (s.2 i)]]) (fun s => n - s.1) (fun s => s.1 ≤ n ∧ ∀ i, i < s.1 → s.2 i = mt (k + i)) (0, r) [0, 1, 5] rfl rfl rfl ⟨Nat.zero_le _, fun i hi => by omega⟩ ?_
  rintro ⟨i, S⟩ ⟨hi, he⟩ ih
  dsimp only at hi he ih ⊢
  refine sp W 0 rfl rfl rfl (fun h2 => ?_) (fun h2 => ?_)
  · have h2 : i < n := by omega
    have km := markText_ok (k + i) (by omega) (by omega)
    refine ce W 0 rfl rfl (km) rfl ?_
    refine bd W 0 1 [0, 1, 5] rfl rfl rfl rfl rfl (ih (i + 1, fun j => if j = i then mt (k + i) else S j) ⟨by dsimp only; omega, fun j hj => ?_⟩ (by dsimp only; omega))
    dsimp only at hj ⊢
    by_cases hji : j = i
    · subst hji; rw [if_pos rfl]
    · rw [if_neg hji]; exact he j (by omega)
  · have e : i = n := by omega
    subst e
    refine rg W 0 rfl (⟨rfl, _, rfl, he⟩)
end Pf
/- Rows by a function: another function that says the same below the length; the tail forgotten. -/
namespace Pf
open Go
variable {P : Program} {TT : TypeId → Option TI} {f N n0 : Nat} {k : List Item} {T : Env} {H : AHeap} {R : AV → AHeap → Prop} {nf : Nat} {ops : Array Oper} {past op pend : List Nat} {vs : List (Option Nat × AV)}

theorem tbc_back {b m g : Nat} {n : Nat} {row row2 : Nat → List AV} {H2 : AHeap} (e1 : nthM H b = some (.tab g n row)) (e2 : setM (.tab g m row2) H b = some H2) :
    H2.length = H.length ∧ ∀ b' blk', H2[b']? = some blk' → (b' = b ∧ blk' = .tab g m row2) ∨ H[b']? = some blk' := by
  rw [nthM_eq] at e1
  rw [setM_eq] at e2
  split at e2
  · simp only [Option.some.injEq] at e2
    subst e2
    refine ⟨by simp, fun b' blk' h => ?_⟩
    rw [List.getElem?_set] at h
    split at h
    · rename_i hb
      subst hb
      simp only [Option.some.injEq] at h
      exact .inl ⟨rfl, h.symm⟩
    · exact .inr h
  · cases e2
theorem tbc_view {b m g : Nat} {n : Nat} {row row2 : Nat → List AV} {H2 : AHeap} (e1 : nthM H b = some (.tab g n row)) (e2 : setM (.tab g m row2) H b = some H2) (hwd : (row2 0).length = (row 0).length) {b' g' n' : Nat} {blk' : ABlk} {row' : Nat → List AV}
    (h1 : H2[b']? = some blk') (h2 : blk'.view = some (g', n', row')) : ∃ blk n row, H[b']? = some blk ∧ blk.view = some (g', n, row) ∧ blk'.width = blk.width := by
  rcases (tbc_back e1 e2).2 b' blk' h1 with ⟨rfl, rfl⟩ | h
  · rw [nthM_eq] at e1
    simp only [ABlk.view, Option.some.injEq, Prod.mk.injEq] at h2
    obtain ⟨rfl, _, _⟩ := h2
    exact ⟨_, _, _, e1, rfl, hwd⟩
  · exact ⟨_, _, _, h, h2, rfl⟩
theorem tbc_img {b m g : Nat} {n : Nat} {row row2 : Nat → List AV} {H2 : AHeap} {β : BMap} (e1 : nthM H b = some (.tab g n row)) (e2 : setM (.tab g m row2) H b = some H2) {cb : Nat} (h : Img β H2 cb) : Img β H cb := by
  obtain ⟨b', blk', g', n', row', L, h1, h2, h3, h4⟩ := h
  rcases (tbc_back e1 e2).2 b' blk' h1 with ⟨rfl, rfl⟩ | h
  · rw [nthM_eq] at e1
    cases h2
    exact ⟨_, _, _, _, _, L, e1, rfl, h3, h4⟩
  · exact ⟨b', blk', g', n', row', L, h, h2, h3, h4⟩
theorem RelH.tbc {FM : FMem} {β : BMap} {w : World} (hh : RelH FM β H w) {b m g : Nat} {n : Nat} {row row2 : Nat → List AV} {H2 : AHeap} (e1 : nthM H b = some (.tab g n row)) (e2 : setM (.tab g m row2) H b = some H2)
    (hwd : (row2 0).length = (row 0).length) (hm : m ≤ n) (hr : ∀ i, i < m → row2 i = row i) (hs : m = n ∨ ∃ off len cv, VR FM β (.sl b g off len) cv ∧ off ≤ m) : RelH FM β H2 w where
  mem b' blk' g' n' row' h1 h2 := by
    rcases (tbc_back e1 e2).2 b' blk' h1 with ⟨rfl, rfl⟩ | h
    · rw [nthM_eq] at e1
      simp only [ABlk.view, Option.some.injEq, Prod.mk.injEq] at h2
      obtain ⟨rfl, rfl, rfl⟩ := h2
      obtain ⟨lo, q1, q2⟩ := hh.mem _ _ _ _ _ e1 rfl
      refine ⟨lo, q1, ?_⟩
      cases lo with
      | none =>
        have : n = 0 := q2
        show m = 0
        omega
      | some L =>
        obtain ⟨z1, z2, z3, ⟨c, el, fr, y1, y2, y3, y4, y5⟩, z5⟩ := q2
        have hs : L.sh ≤ m := by
          rcases hs with rfl | ⟨off, len, cv, hv, ho⟩
          · exact z2
          · have : L.sh ≤ off := by
              cases hv with
              | sl h hs hr hc hp => rw [q1] at h; cases h; exact hs
              | sl0 h hs => rw [q1] at h; cases h; exact hs _ rfl
            omega
        refine ⟨z1, hs, by omega, ⟨c, el, fr, y1, y2, y3, y4, fun r r1 r2 => ?_⟩, z5⟩
        have := y5 r r1 (by omega)
        rw [hr r r2]
        exact this
    · exact hh.mem _ _ _ _ _ h h2
  inj b1 b2 blk1 blk2 g1 g2 n1 n2 row1 row2 L1 L2 h1 h2 h3 h4 h5 h6 h7 := by
    obtain ⟨c1, d1, f1, p1, p2, _⟩ := tbc_view e1 e2 hwd h1 h2
    obtain ⟨c2, d2, f2, q1, q2, _⟩ := tbc_view e1 e2 hwd h4 h5
    exact hh.inj _ _ _ _ _ _ _ _ _ _ _ _ p1 p2 h3 q1 q2 h6 h7
  wid b1 blk1 g1 n1 row1 L h1 h2 h3 := by
    obtain ⟨c1, d1, f1, p1, p2, p3⟩ := tbc_view e1 e2 hwd h1 h2
    rw [p3]
    exact hh.wid _ _ _ _ _ _ p1 p2 h3
  fm := hh.fm
  dom b1 g1 lo h := by
    obtain ⟨q1, q2⟩ := hh.dom b1 g1 lo h
    refine ⟨by rw [(tbc_back e1 e2).1]; exact q1, fun blk' g' n' row' h1 h2 => ?_⟩
    obtain ⟨c1, d1, f1, p1, p2, _⟩ := tbc_view e1 e2 hwd h1 h2
    exact q2 _ _ _ _ p1 p2
  gk := hh.gk
  mp := hh.mp.keep (fun _ _ _ h => h) (fun b' vb sh es h => by
    rcases (tbc_back e1 e2).2 b' _ h with ⟨_, h⟩ | h
    · cases h
    · exact h) fun _ _ _ h => h
theorem Ext.tbc {FM : FMem} {β : BMap} {w : World} {b m g : Nat} {n : Nat} {row row2 : Nat → List AV} {H2 : AHeap} (e1 : nthM H b = some (.tab g n row)) (e2 : setM (.tab g m row2) H b = some H2) : Ext FM β H w FM β H2 w where
  fm _ _ _ h := h
  bm _ _ _ h := h
  size := Nat.le_refl _
  img cb _ h := tbc_img e1 e2 h
  frame _ _ _ := rfl
  fmn _ _ _ h := .inl h
  len := by rw [(tbc_back e1 e2).1]; exact Nat.le_refl _
  os := rfl
  output := rfl
  tape := rfl
/-- The rows of the block 'b' are said by another function; its tail may be forgotten (then a slot 'd' holds a piece that begins at or ahead of 'm'). -/
theorem go_tab (b m : Nat) (row2 : Nat → List AV) {g n : Nat} {row : Nat → List AV} {H2 : AHeap} (e1 : nthM H b = some (.tab g n row)) (e2 : setM (.tab g m row2) H b = some H2)
    (hwd : (row2 0).length = (row 0).length) (hm : m ≤ n) (hr : ∀ i, i < m → row2 i = row i) (hs : m = n ∨ ∃ d off len, getM T d = some (.sl b g off len) ∧ off ≤ m) (h : AGo P f N n0 k T H2 R) : AGo P f N n0 k T H R := by
  intro FM β b cs a w a1 a2 a3 a4 hT hH hn0
  refine Ext.go (Ext.tbc e1 e2) hn0 (h FM β b cs a w a1 a2 a3 a4 hT (hH.tbc e1 e2 hwd hm hr ?_)) (b := b) (.refl _ _)
  rcases hs with h | ⟨d, off, len, h1, h2⟩
  · exact .inl h
  · exact .inr ⟨off, len, _, hT d _ h1, h2⟩
/-- A block is forgotten. -/
theorem ded_back {b : Nat} {H2 : AHeap} (e2 : setM ABlk.dead H b = some H2) : H2.length = H.length ∧ ∀ (b' : Nat) (blk' : ABlk), H2[b']? = some blk' → blk' = ABlk.dead ∨ H[b']? = some blk' := by
  rw [setM_eq] at e2
  split at e2
  · simp only [Option.some.injEq] at e2
    subst e2
    refine ⟨by simp, fun b' blk' h => ?_⟩
    rw [List.getElem?_set] at h
    split at h
    · simp only [Option.some.injEq] at h
      exact .inl h.symm
    · exact .inr h
  · cases e2
theorem ded_view {b : Nat} {H2 : AHeap} (e2 : setM ABlk.dead H b = some H2) {b' : Nat} {blk' : ABlk} {x : Nat × Nat × (Nat → List AV)} (h1 : H2[b']? = some blk') (h2 : blk'.view = some x) : H[b']? = some blk' := by
  rcases (ded_back e2).2 b' blk' h1 with rfl | h
  · cases h2
  · exact h
theorem ded_vw {b : Nat} {H2 : AHeap} (e2 : setM ABlk.dead H b = some H2) {b' : Nat} {blk' : ABlk} {x : Nat × Nat × (Nat → List AV)} (h1 : H2[b']? = some blk') (h2 : blk'.vw = some x) : H[b']? = some blk' := by
  rcases (ded_back e2).2 b' blk' h1 with rfl | h
  · cases h2
  · exact h
theorem RelH.ded {FM : FMem} {β : BMap} {w : World} (hh : RelH FM β H w) {b : Nat} {H2 : AHeap} (e2 : setM ABlk.dead H b = some H2) : RelH FM β H2 w where
  mem b' blk' g' n' row' h1 h2 := hh.mem _ _ _ _ _ (ded_view e2 h1 h2) h2
  inj b1 b2 blk1 blk2 g1 g2 n1 n2 row1 row2 L1 L2 h1 h2 h3 h4 h5 h6 h7 := hh.inj _ _ _ _ _ _ _ _ _ _ _ _ (ded_view e2 h1 h2) h2 h3 (ded_view e2 h4 h5) h5 h6 h7
  wid b1 blk1 g1 n1 row1 L h1 h2 h3 := hh.wid _ _ _ _ _ _ (ded_view e2 h1 h2) h2 h3
  fm := hh.fm
  dom b1 g1 lo h := by
    obtain ⟨q1, q2⟩ := hh.dom b1 g1 lo h
    exact ⟨by rw [(ded_back e2).1]; exact q1, fun blk' g' n' row' h1 h2 => q2 _ _ _ _ (ded_view e2 h1 h2) h2⟩
  gk := hh.gk
  mp := hh.mp.keep (fun _ _ _ h => h) (fun b' vb sh es h => by
    rcases (ded_back e2).2 b' _ h with h | h
    · cases h
    · exact h) fun _ _ _ h => h
theorem Ext.ded {FM : FMem} {β : BMap} {w : World} {b : Nat} {H2 : AHeap} (e2 : setM ABlk.dead H b = some H2) : Ext FM β H w FM β H2 w where
  fm _ _ _ h := h
  bm _ _ _ h := h
  size := Nat.le_refl _
  img cb _ h := by
    obtain ⟨b', blk', g', n', row', L, h1, h2, h3, h4⟩ := h
    exact ⟨b', blk', g', n', row', L, ded_vw e2 h1 h2, h2, h3, h4⟩
  frame _ _ _ := rfl
  fmn _ _ _ h := .inl h
  len := by rw [(ded_back e2).1]; exact Nat.le_refl _
  os := rfl
  output := rfl
  tape := rfl
theorem go_dead (b : Nat) {H2 : AHeap} (e2 : setM ABlk.dead H b = some H2) (h : AGo P f N n0 k T H2 R) : AGo P f N n0 k T H R := by
  intro FM β bf cs a w a1 a2 a3 a4 hT hH hn0
  exact Ext.go (Ext.ded e2) hn0 (h FM β bf cs a w a1 a2 a3 a4 hT (hH.ded e2)) (b := bf) (.refl _ _)
end Pf
/- Terms in new memory, and their marks -/
namespace Pf
open Go Go.Proofs
theorem toNodeS_new (l : List Nd) (hl : l.length ≤ 1048576) : AFun Tryz.prog 45 [.fz l.length (nodeR l)] [] fun u H => u = .sl 0 0 0 l.length ∧ H = [.tab 0 l.length (nodeR l)] := by
  refine afun_of Tryz.func45 Tryz.call45 rfl Tryz.ntmps45 rfl ?_
  have W : Walk Tryz.prog TT 45 _ := Walk.of TT_ok Tryz.func45 Tryz.results45
  refine lp W 0 (σ := Nat × (Nat → Int) × (Nat → Int) × (Nat → List UInt8)) (fun s => [(0, .fz l.length (nodeR l)), (3, .sl 0 0 0 l.length), (4, .int .i64 s.1)]) (fun s => [.tab 0 l.length fun j => [.int .i64 (s.2.1 j), .int .i64 (s.2.2.1 j), .str (s.2.2.2 j)]]) (fun s => l.length - s.1) (fun s => s.1 ≤ l.length ∧ ∀ j, j < s.1 → (s.2.1 j, s.2.2.1 j, s.2.2.2 j) = l.getD j (0, 0, [])) (0, fun _ => 0, fun _ => 0, fun _ => []) [0, 3, 4] rfl rfl rfl ⟨Nat.zero_le _, fun j hj => by omega⟩ ?_
  rintro ⟨i, F, G, S⟩ ⟨hi, he⟩ ih
  dsimp only at hi he ih ⊢
  refine sp W 0 rfl rfl rfl (fun h2 => ?_) (fun h2 => ?_)
  · have h2 : i < l.length := by omega
    refine ce W 0 rfl rfl (toNode_ok (l.getD i (0, 0, []))) rfl ?_
    refine bd W 0 1 [0, 3, 4] rfl rfl rfl rfl rfl (ih (i + 1, fun j => if j = i then (l.getD i (0, 0, [])).1 else F j, fun j => if j = i then (l.getD i (0, 0, [])).2.1 else G j, fun j => if j = i then (l.getD i (0, 0, [])).2.2 else S j) ⟨by dsimp only; omega, fun j hj => ?_⟩ (by dsimp only; omega))
    dsimp only at hj ⊢
    by_cases hji : j = i
    · subst hji; rw [if_pos rfl, if_pos rfl, if_pos rfl]
    · rw [if_neg hji, if_neg hji, if_neg hji]; exact he j (by omega)
  · refine go_tab 0 l.length (nodeR l) rfl rfl rfl (Nat.le_refl _) (fun j hj => ?_) (.inl rfl) ?_
    · have e := he j (by omega)
      unfold nodeR
      rw [← e]
    refine rg W 0 rfl (⟨rfl, rfl⟩)
theorem toTerm_new (l : List Nd) (hl : l.length ≤ 1048576) : AFun Tryz.prog 16 [termV l] [] fun u H => u = .agg [.sl 3 0 0 l.length] ∧ H = [.lst 0 [[.fz l.length (nodeR l)]], .lst 0 [[.sl 3 0 0 l.length]], .lst 0 [[.sl 3 0 0 l.length]], .tab 0 l.length (nodeR l)] := by
  refine afun_of Tryz.func16 Tryz.call16 rfl Tryz.ntmps16 rfl ?_
  have W : Walk Tryz.prog TT 16 _ := Walk.of TT_ok Tryz.func16 Tryz.results16
  refine cx W 0 rfl rfl (toNodeS_new l hl) (fun u H h => by obtain ⟨rfl, rfl⟩ := h; exact ⟨rfl, fun _ _ => rfl, trivial⟩) ?_
  rintro _ _ ⟨rfl, rfl⟩
  refine ⟨_, _, rfl, rfl, ?_⟩
  refine rg W 0 rfl (⟨rfl, rfl⟩)
theorem markNodeS_ok (n k : Nat) (l : List Nd) (hl : l.length = n) (hn : n ≤ 1048576) (h1 : 1 ≤ k) (hk : k ≤ 1048576000) : AFunM Tryz.prog 49 [.sl 0 0 0 n, .int .i64 k] [.tab 0 n (nodeR l)] fun u bs => u = .int .i64 (k + 3 * n : Nat) ∧ ∃ l' : List Nd, l'.length = n ∧ bs = [.tab 0 n (nodeR l')] := by
  refine afun_of Tryz.func49 Tryz.call49 rfl Tryz.ntmps49 rfl ?_
  have W : Walk Tryz.prog TT 49 _ := Walk.of TT_ok Tryz.func49 Tryz.results49
  refine lp W 0 (σ := Nat × (Nat → Int) × (Nat → Int) × (Nat → List UInt8)) (fun s => [(0, .sl 0 0 0 n), (1, .int .i64 (k + 3 * s.1 : Nat)), (5, .int .i64 s.1)]) (fun s => [.tab 0 n fun j => [.int .i64 (s.2.1 j), .int .i64 (s.2.2.1 j), .str (s.2.2.2 j)]]) (fun s => n - s.1) (fun s => s.1 ≤ n) (0, fun j => (l.getD j (0, 0, [])).1, fun j => (l.getD j (0, 0, [])).2.1, fun j => (l.getD j (0, 0, [])).2.2) [0, 1, 5] rfl rfl rfl (Nat.zero_le _) ?_
  rintro ⟨i, F, G, S⟩ hi ih
  dsimp only at hi ih ⊢
  refine sp W 0 rfl rfl rfl (fun h2 => ?_) (fun h2 => ?_)
  · have h2 : i < n := by omega
    have km := markText_ok (k + 3 * i + 2) (by omega) (by omega)
    refine ce W 0 rfl rfl (km) rfl ?_
    refine bd W 0 1 [0, 1, 5] rfl rfl rfl rfl rfl (ih (i + 1, _, _, _) (by dsimp only; omega) (by dsimp only; omega))
  · have e : i = n := by omega
    subst e
    let l' : List Nd := (List.range i).map fun j => (F j, G j, S j)
    have hl' : l'.length = i := by simp [l']
    refine go_tab 0 i (nodeR l') rfl rfl rfl (Nat.le_refl _) (fun j hj => ?_) (.inl rfl) ?_
    · unfold nodeR
      simp [l', List.getD_eq_getElem?_getD, hj]
    refine rmT W 0 [.tab 0 i (nodeR l')] rfl rfl rfl ⟨rfl, trivial⟩ ⟨fun _ _ => rfl, trivial⟩ rfl (.int .i64 (k + 3 * i : Nat)) rfl .refl ⟨rfl, l', hl', rfl⟩
theorem in_names : True := trivial
end Pf
/- The library's layings at this dump (Sort, Compact of texts), written by the shelf's tools. -/
namespace Go.Proofs
open Go.Shelf
def Tryz.lays190_ren : Go.Shelf.Ren := ⟨fun | 190 => 81 | 125 => 67 | 258 => 108 | 128 => 95 | 129 => 96 | 302 => 127 | 303 => 128 | 304 => 129 | 305 => 130 | 306 => 131 | 307 => 132 | 308 => 133 | 309 => 134 | 310 => 135 | 333 => 153 | 329 => 154 | 330 => 155 | 334 => 156 | 335 => 157 | 336 => 158 | 344 => 167 | n => n, fun | 31 => 41 | 9 => 9 | 3 => 3 | 46 => 98 | 0 => 0 | 51 => 126 | 53 => 67 | 4 => 4 | 183 => 152 | 182 => 151 | 131 => 156 | 5 => 5 | 218 => 172 | 222 => 176 | 228 => 186 | 229 => 187 | n => n, fun | n => n⟩
theorem Tryz.lays190 : Go.Proofs.Lays.n190 Tryz.prog Tryz.lays190_ren := {
  mixed := by kernel_rfl
  f125 := Tryz.func67.trans (congrArg some (by kernel_rfl))
  f128 := Tryz.func95.trans (congrArg some (by kernel_rfl))
  f129 := Tryz.func96.trans (congrArg some (by kernel_rfl))
  f190 := Tryz.func81.trans (congrArg some (by kernel_rfl))
  f258 := Tryz.func108.trans (congrArg some (by kernel_rfl))
  f302 := Tryz.func127.trans (congrArg some (by kernel_rfl))
  f303 := Tryz.func128.trans (congrArg some (by kernel_rfl))
  f304 := Tryz.func129.trans (congrArg some (by kernel_rfl))
  f305 := Tryz.func130.trans (congrArg some (by kernel_rfl))
  f306 := Tryz.func131.trans (congrArg some (by kernel_rfl))
  f307 := Tryz.func132.trans (congrArg some (by kernel_rfl))
  f308 := Tryz.func133.trans (congrArg some (by kernel_rfl))
  f309 := Tryz.func134.trans (congrArg some (by kernel_rfl))
  f310 := Tryz.func135.trans (congrArg some (by kernel_rfl))
  f329 := Tryz.func154.trans (congrArg some (by kernel_rfl))
  f330 := Tryz.func155.trans (congrArg some (by kernel_rfl))
  f333 := Tryz.func153.trans (congrArg some (by kernel_rfl))
  f334 := Tryz.func156.trans (congrArg some (by kernel_rfl))
  f335 := Tryz.func157.trans (congrArg some (by kernel_rfl))
  f336 := Tryz.func158.trans (congrArg some (by kernel_rfl))
  f344 := Tryz.func167.trans (congrArg some (by kernel_rfl))
  t0 := Tryz.underlying0
  a0 := Tryz.isAgg0
  z0 := Tryz.sizeOf0
  v0 := Tryz.zeroValue0
  t3 := Tryz.underlying3
  a3 := Tryz.isAgg3
  z3 := Tryz.sizeOf3
  v3 := Tryz.zeroValue3
  t4 := Tryz.underlying4
  a4 := Tryz.isAgg4
  z4 := Tryz.sizeOf4
  v4 := Tryz.zeroValue4
  t5 := Tryz.underlying5
  a5 := Tryz.isAgg5
  z5 := Tryz.sizeOf5
  v5 := Tryz.zeroValue5
  t9 := Tryz.underlying9
  a9 := Tryz.isAgg9
  z9 := Tryz.sizeOf9
  v9 := Tryz.zeroValue9
  t31 := Tryz.underlying41
  a31 := Tryz.isAgg41
  z31 := Tryz.sizeOf41
  v31 := Tryz.zeroValue41
  t46 := Tryz.underlying98
  a46 := Tryz.isAgg98
  z46 := Tryz.sizeOf98
  v46 := Tryz.zeroValue98
  t51 := Tryz.underlying126
  a51 := Tryz.isAgg126
  z51 := Tryz.sizeOf126
  v51 := Tryz.zeroValue126
  t53 := Tryz.underlying67
  a53 := Tryz.isAgg67
  z53 := Tryz.sizeOf67
  v53 := Tryz.zeroValue67
  t131 := Tryz.underlying156
  a131 := Tryz.isAgg156
  z131 := Tryz.sizeOf156
  v131 := Tryz.zeroValue156
  t182 := Tryz.underlying151
  a182 := Tryz.isAgg151
  z182 := Tryz.sizeOf151
  v182 := Tryz.zeroValue151
  t183 := Tryz.underlying152
  a183 := Tryz.isAgg152
  z183 := Tryz.sizeOf152
  v183 := Tryz.zeroValue152
  t218 := Tryz.underlying172
  a218 := Tryz.isAgg172
  z218 := Tryz.sizeOf172
  v218 := Tryz.zeroValue172
  t222 := Tryz.underlying176
  a222 := Tryz.isAgg176
  z222 := Tryz.sizeOf176
  v222 := Tryz.zeroValue176
  t228 := Tryz.underlying186
  a228 := Tryz.isAgg186
  z228 := Tryz.sizeOf186
  v228 := Tryz.zeroValue186
  t229 := Tryz.underlying187
  a229 := Tryz.isAgg187
  z229 := Tryz.sizeOf187
  v229 := Tryz.zeroValue187 }
def Tryz.lays194_ren : Go.Shelf.Ren := ⟨fun | 194 => 83 | n => n, fun | 31 => 41 | 9 => 9 | 3 => 3 | 4 => 4 | 0 => 0 | n => n, fun | n => n⟩
theorem Tryz.lays194 : Go.Proofs.Lays.n194 Tryz.prog Tryz.lays194_ren := {
  mixed := by kernel_rfl
  f194 := Tryz.func83.trans (congrArg some (by kernel_rfl))
  t0 := Tryz.underlying0
  a0 := Tryz.isAgg0
  z0 := Tryz.sizeOf0
  v0 := Tryz.zeroValue0
  t3 := Tryz.underlying3
  a3 := Tryz.isAgg3
  z3 := Tryz.sizeOf3
  v3 := Tryz.zeroValue3
  t4 := Tryz.underlying4
  a4 := Tryz.isAgg4
  z4 := Tryz.sizeOf4
  v4 := Tryz.zeroValue4
  t9 := Tryz.underlying9
  a9 := Tryz.isAgg9
  z9 := Tryz.sizeOf9
  v9 := Tryz.zeroValue9
  t31 := Tryz.underlying41
  a31 := Tryz.isAgg41
  z31 := Tryz.sizeOf41
  v31 := Tryz.zeroValue41 }
end Go.Proofs
/- Lists of texts: put in order one by one, sorted; plain -/
namespace Pf
open Go Go.Proofs
abbrev Tx := List UInt8
theorem bless : ∀ (x y : Tx), (Op.bytesLess x y = true) = (x < y)
  | [], [] => by simp [Op.bytesLess]
  | _ :: _, [] => by simp [Op.bytesLess]
  | [], _ :: _ => by simp [Op.bytesLess]
  | a :: x, b :: y => by
    have ih := bless x y
    rw [Op.bytesLess]
    simp only [List.cons_lt_cons_iff, Bool.or_eq_true, Bool.and_eq_true, decide_eq_true_eq, beq_iff_eq, ih]
/-- Strictly ascending. -/
def asc (l : List Tx) : Prop := l.Pairwise (· < ·)
/-- Two ascending lists with the same members are one. -/
theorem asc_eq : ∀ {a b : List Tx}, asc a → asc b → (∀ x, x ∈ a ↔ x ∈ b) → a = b
  | [], [], _, _, _ => rfl
  | [], y :: b, _, _, h => by have := (h y).2 (by simp); simp at this
  | x :: a, [], _, _, h => by have := (h x).1 (by simp); simp at this
  | x :: a, y :: b, ha, hb, h => by
    have ha := List.pairwise_cons.1 ha
    have hb := List.pairwise_cons.1 hb
    have e : x = y := by
      rcases List.mem_cons.1 ((h x).1 (by simp)) with h1 | h1
      · exact h1
      rcases List.mem_cons.1 ((h y).2 (by simp)) with h2 | h2
      · exact h2.symm
      exact absurd (List.lt_trans (hb.1 x h1) (ha.1 y h2)) (List.lt_irrefl _)
    subst e
    congr 1
    refine asc_eq ha.2 hb.2 fun z => ⟨fun hz => ?_, fun hz => ?_⟩
    · rcases List.mem_cons.1 ((h z).1 (by simp [hz])) with h1 | h1
      · subst h1; exact absurd (ha.1 _ hz) (List.lt_irrefl _)
      · exact h1
    · rcases List.mem_cons.1 ((h z).2 (by simp [hz])) with h1 | h1
      · subst h1; exact absurd (hb.1 _ hz) (List.lt_irrefl _)
      · exact h1
/-- A text put into an ascending list. -/
def into (s : Tx) : List Tx → List Tx
  | [] => [s]
  | x :: l => if Op.bytesLess x s = true then x :: into s l else if x = s then x :: l else s :: x :: l
theorem into_mem (s : Tx) : ∀ (l : List Tx) (y : Tx), y ∈ into s l ↔ y = s ∨ y ∈ l
  | [], y => by simp [into]
  | x :: l, y => by
    unfold into
    split
    · rw [List.mem_cons, into_mem s l, List.mem_cons]
      constructor
      · rintro (h | h | h) <;> simp [h]
      · rintro (h | h | h) <;> simp [h]
    · split
      · rename_i h; subst h; simp
      · simp
theorem into_asc (s : Tx) : ∀ {l : List Tx}, asc l → asc (into s l)
  | [], _ => by simp [into, asc]
  | x :: l, h => by
    have h1 := List.pairwise_cons.1 h
    unfold into
    split
    · rename_i hx
      rw [bless] at hx
      refine List.pairwise_cons.2 ⟨fun y hy => ?_, into_asc s h1.2⟩
      rcases (into_mem s l y).1 hy with rfl | hy
      · exact hx
      · exact h1.1 y hy
    · rename_i hx
      rw [bless] at hx
      split
      · exact h
      · rename_i hne
        have hsx : s < x := by
          rcases Classical.em (s < x) with h3 | h3
          · exact h3
          · exact absurd (show x = s from List.le_antisymm h3 hx) hne
        refine List.pairwise_cons.2 ⟨fun y hy => ?_, h⟩
        rcases List.mem_cons.1 hy with rfl | hy
        · exact hsx
        · exact List.lt_trans hsx (h1.1 y hy)
/-- All of a list, put in one by one. -/
def intoAll (ts : List Tx) : List Tx := ts.foldl (fun l s => into s l) []
theorem intoAll_snoc (ts : List Tx) (s : Tx) : intoAll (ts ++ [s]) = into s (intoAll ts) := by simp [intoAll]
theorem foldl_into (ts : List Tx) : ∀ (l : List Tx), asc l → asc (ts.foldl (fun l s => into s l) l) ∧ ∀ y, y ∈ ts.foldl (fun l s => into s l) l ↔ y ∈ ts ∨ y ∈ l := by
  induction ts with
  | nil => intro l h; exact ⟨h, fun y => by simp⟩
  | cons t ts ih =>
    intro l h
    obtain ⟨h1, h2⟩ := ih (into t l) (into_asc t h)
    refine ⟨h1, fun y => ?_⟩
    rw [List.foldl_cons, h2, into_mem, List.mem_cons]
    constructor
    · rintro (h | h | h) <;> simp [h]
    · rintro ((h | h) | h) <;> simp [h]
theorem intoAll_asc (ts : List Tx) : asc (intoAll ts) := (foldl_into ts [] List.Pairwise.nil).1
theorem intoAll_mem (ts : List Tx) (y : Tx) : y ∈ intoAll ts ↔ y ∈ ts := by
  have := (foldl_into ts [] List.Pairwise.nil).2 y
  simpa [intoAll] using this
theorem intoAll_len (ts : List Tx) : (intoAll ts).length ≤ ts.length := by
  have into_len : ∀ (s : Tx) (l : List Tx), (into s l).length ≤ l.length + 1 := by
    intro s l
    induction l with
    | nil => simp [into]
    | cons x l ih =>
      unfold into
      split
      · simp only [List.length_cons]; omega
      · split <;> simp
  have key : ∀ (ts : List Tx) (l : List Tx), (ts.foldl (fun l s => into s l) l).length ≤ l.length + ts.length := by
    intro ts
    induction ts with
    | nil => intro l; simp
    | cons t ts ih => intro l; have := ih (into t l); have := into_len t l; simp only [List.foldl_cons, List.length_cons]; omega
  have := key ts []
  simpa [intoAll] using this
/-! ### Sorted, and runs of one text once -/
def srt (ts : List Tx) : List Tx := ts.mergeSort fun x y => decide (x ≤ y)
theorem srt_len (ts : List Tx) : (srt ts).length = ts.length := List.length_mergeSort _
theorem srt_mem (ts : List Tx) (y : Tx) : y ∈ srt ts ↔ y ∈ ts := (List.mergeSort_perm ts _).mem_iff
theorem srt_asc (ts : List Tx) : (srt ts).Pairwise fun x y => ¬ y < x := by
  have := List.pairwise_mergeSort (le := fun x y : Tx => decide (x ≤ y)) (fun a b c h1 h2 => by simp only [decide_eq_true_eq] at *; exact List.le_trans h1 h2) (fun a b => by simp only [Bool.or_eq_true, decide_eq_true_eq]; exact List.le_total a b) ts
  exact this.imp fun h => by simpa using h
theorem compact_le (ts : List Tx) : (Lib.compact ts).length ≤ ts.length := by
  unfold Lib.compact Lib.compactUpTo
  rw [List.length_map]
  exact Nat.le_trans (List.length_filter_le _ _) (by simp)
theorem upTo_asc (d : List Tx) (hd : d.Pairwise fun x y => ¬ y < x) : ∀ m, m ≤ d.length → asc (Lib.compactUpTo d.toArray m) ∧ (∀ x ∈ Lib.compactUpTo d.toArray m, ∃ j, j < m ∧ x = d.getD j []) ∧ ∀ j, j < m → d.getD j [] ∈ Lib.compactUpTo d.toArray m := by
  have hg : ∀ j, j < d.length → d.toArray[j]! = d.getD j [] := fun j hj => by simp [List.getD_eq_getElem?_getD, hj]
  have hle : ∀ i j, i < j → j < d.length → ¬ d.getD j [] < d.getD i [] := by
    intro i j h1 h2
    have := List.pairwise_iff_getElem.1 hd i j (by omega) h2 h1
    simpa [List.getD_eq_getElem?_getD, show i < d.length by omega, h2] using this
  intro m
  induction m with
  | zero => intro _; exact ⟨by simp [Lib.compactUpTo, asc], fun x h => by simp [Lib.compactUpTo] at h, fun j hj => by omega⟩
  | succ m ih =>
    intro hm
    obtain ⟨h1, h2, h3⟩ := ih (by omega)
    rw [Lib.compactUpTo_succ]
    have hk : Lib.keeps d.toArray m = true ↔ (m = 0 ∨ d.getD m [] ≠ d.getD (m - 1) []) := by
      unfold Lib.keeps
      rw [decide_eq_true_eq, hg m (by omega)]
      rcases Nat.eq_zero_or_pos m with h0 | h0
      · simp [h0]
      · rw [hg (m - 1) (by omega)]
    split
    · rename_i hkeep
      have hkeep := hk.1 hkeep
      rw [hg m (by omega)]
      refine ⟨List.pairwise_append.2 ⟨h1, by simp, fun x hx y hy => ?_⟩, fun x hx => ?_, fun j hj => ?_⟩
      · simp only [List.mem_singleton] at hy
        subst hy
        obtain ⟨j, hj, rfl⟩ := h2 x hx
        rcases hkeep with h0 | h0
        · omega
        have a1 := hle (m - 1) m (by omega) (by omega)
        have a2 : d.getD (m - 1) [] < d.getD m [] := by
          rcases Classical.em (d.getD (m - 1) [] < d.getD m []) with h | h
          · exact h
          · exact absurd (show d.getD m [] = d.getD (m - 1) [] from List.le_antisymm h a1) h0
        rcases Nat.lt_or_ge j (m - 1) with h | h
        · exact List.lt_of_le_of_lt (hle j (m - 1) h (by omega)) a2
        · rw [show j = m - 1 by omega]; exact a2
      · rcases List.mem_append.1 hx with h | h
        · obtain ⟨j, hj, e⟩ := h2 x h; exact ⟨j, by omega, e⟩
        · simp only [List.mem_singleton] at h; exact ⟨m, by omega, h⟩
      · rcases Nat.lt_or_ge j m with h | h
        · exact List.mem_append.2 (.inl (h3 j h))
        · rw [show j = m by omega]; exact List.mem_append.2 (.inr (by simp))
    · rename_i hkeep
      have hkeep := fun h => hkeep (hk.2 h)
      rw [List.append_nil]
      refine ⟨h1, fun x hx => ?_, fun j hj => ?_⟩
      · obtain ⟨j, hj, e⟩ := h2 x hx; exact ⟨j, by omega, e⟩
      · rcases Nat.lt_or_ge j m with h | h
        · exact h3 j h
        · have e : d.getD m [] = d.getD (m - 1) [] := by
            rcases Classical.em (d.getD m [] = d.getD (m - 1) []) with h | h
            · exact h
            · exact absurd (.inr h) hkeep
          have : m ≠ 0 := fun h => hkeep (.inl h)
          rw [show j = m by omega, e]
          exact h3 (m - 1) (by omega)
/-- Sorted, each text once: the same as all put in one by one. -/
theorem names_eq (ts : List Tx) : Lib.compact (srt ts) = intoAll ts := by
  obtain ⟨h1, h2, h3⟩ := upTo_asc (srt ts) (srt_asc ts) (srt ts).length (Nat.le_refl _)
  refine asc_eq h1 (intoAll_asc ts) fun x => ?_
  rw [intoAll_mem, ← srt_mem ts x]
  constructor
  · intro h
    obtain ⟨j, hj, rfl⟩ := h2 x h
    simp [List.getD_eq_getElem?_getD, hj]
  · intro h
    obtain ⟨j, hj, rfl⟩ := List.getElem_of_mem h
    have h4 := h3 j hj
    rw [show (srt ts).getD j [] = (srt ts)[j] by simp [List.getD_eq_getElem?_getD, hj]] at h4
    exact h4
end Pf
/- The library's Sort, Compact and Clip of texts -/
namespace Pf
open Go Go.Proofs
theorem sort_ok (g n : Nat) (ts : List (List UInt8)) (hn : ts.length = n) (hl : n ≤ 1099511627776) : AFun Tryz.prog 81 [.sl 0 g 0 n] [.tab g n (tbRow ts)] (fun v H => v = .tup [] ∧ H = [.tab g n (tbRow (srt ts))]) := by
  subst hn
  refine AFun.of_texts (m := none) g (srt_len ts) (fun k h => by cases h) (Enters.of Tryz.func81 (by kernel_rfl) (by kernel_rfl)) (fun w a cap h => ?_) (fun w blk cap h1 h2 h3 h4 => ?_)
  · exact Any.slices_Sort_string_none Tryz.lays190 a cap w
  · exact Any.slices_Sort_string Tryz.lays190 blk 0 cap ts w h3 h4 (by omega)
theorem compact_ok (g n : Nat) (ts : List (List UInt8)) (hn : ts.length = n) (hl : n ≤ 1099511627776) : AFun Tryz.prog 83 [.sl 0 g 0 n] [.tab g n (tbRow ts)] (fun v H => v = .sl 0 g 0 (Lib.compact ts).length ∧ H = [.tab g n (tbRow (Lib.compact ts ++ List.replicate (ts.length - (Lib.compact ts).length) []))]) := by
  have hc := compact_le ts
  subst hn
  refine AFun.of_texts (m := some (Lib.compact ts).length) g (by simp; omega) (fun k h => by cases h; exact hc) (Enters.of Tryz.func83 (by kernel_rfl) (by kernel_rfl)) (fun w a cap h => ?_) (fun w blk cap h1 h2 h3 h4 => ?_)
  · exact Any.slices_Compact_string_empty Tryz.lays194 a cap w
  · exact (Any.slices_Compact_string Tryz.lays194 blk 0 cap ts w h3 (by omega) h2).mono fun e w' ⟨h5, q, h6⟩ => ⟨h5, q, #[], by rw [Go.Sort.grow_empty]; exact h6⟩
/-- Of what is sorted. -/
theorem compact_srt (g n : Nat) (ts : List (List UInt8)) (hn : ts.length = n) (hl : n ≤ 1099511627776) : AFun Tryz.prog 83 [.sl 0 g 0 n] [.tab g n (tbRow (srt ts))] (fun v H => v = .sl 0 g 0 (intoAll ts).length ∧ ∃ X, H = [.tab g n (tbRow X)] ∧ ∀ i, i < (intoAll ts).length → tbRow (intoAll ts) i = tbRow X i) :=
  (compact_ok g n (srt ts) (by rw [srt_len]; exact hn) hl).mono fun v H ⟨h1, h2⟩ => by
    rw [names_eq] at h1 h2
    refine ⟨h1, _, h2, fun i hi => ?_⟩
    unfold tbRow
    simp [List.getD_eq_getElem?_getD, List.getElem?_append_left hi]
theorem clip_ok (g n : Nat) (row : Nat → List AV) (hm : n ≤ 1099511627776) : AFun Tryz.prog 82 [.sl 0 g 0 n] [.tab g n row] (fun v H => v = .sl 0 g 0 n ∧ H = [.tab g n row]) := by
  refine afun_of Tryz.func82 Tryz.call82 rfl Tryz.ntmps82 rfl ?_
  have W : Walk Tryz.prog TT 82 _ := Walk.of TT_ok Tryz.func82 Tryz.results82
  refine rg W 0 rfl (⟨rfl, rfl⟩)
end Pf
/- A nil slice in a temporary, as an empty block of its own. -/
namespace Pf
open Go
variable {P : Program} {TT : TypeId → Option TI} {f N n0 : Nat} {k : List Item} {T : Env} {H : AHeap} {R : AV → AHeap → Prop}

/-- The temporary 'd' holds no cells: from here on it is a slice of an empty block, at the heap's end. -/
theorem go_nilT (d : Nat) (blk : ABlk) {v : AV} {rowE : Nat → List AV} {T1 : Env} {H2 : AHeap} (et : getM T d = some v) (en : isNil v = true)
    (eb : blk.view = some (0, 0, rowE)) (e1 : putM d (.sl (lenM H) 0 0 0) T = some T1) (e4 : appM H [blk] = some H2)
    (h : AGo P f N n0 k T1 H2 R) : AGo P f N n0 k T H R := by
  intro FM β bf cs a w a1 a2 a3 a4 hT hH hl
  rw [appM_eq] at e4
  cases e4
  simp only [lenM_eq] at *
  let β1 : BMap := fun b g => if b = H.length ∧ g = 0 then some none else β b g
  have hnone : ∀ g, β H.length g = none := by
    intro g
    cases hb : β H.length g with
    | none => rfl
    | some lo => have := (hH.dom _ _ _ hb).1; omega
  have hβ : ∀ b g lo, β b g = some lo → β1 b g = some lo := by
    intro b g lo hb
    simp only [β1]
    split
    · rename_i h1
      obtain ⟨rfl, rfl⟩ := h1
      rw [hnone] at hb; cases hb
    · exact hb
  have some1 : ∀ {i g : Nat} {L : Loc}, β1 i g = some (some L) → β i g = some (some L) := by
    intro i g L hi
    simp only [β1] at hi
    split at hi
    · cases hi
    · exact hi
  have get : ∀ {i : Nat} {bl : ABlk}, (H ++ [blk])[i]? = some bl → (i < H.length ∧ H[i]? = some bl) ∨ (i = H.length ∧ bl = blk) := by
    intro i bl hi
    rcases Nat.lt_or_ge i H.length with h1 | h1
    · rw [List.getElem?_append_left h1] at hi; exact .inl ⟨h1, hi⟩
    · rw [List.getElem?_append_right h1] at hi
      obtain ⟨h2, h3⟩ := List.getElem?_eq_some_iff.1 hi
      simp at h2
      have : i = H.length := by omega
      subst this
      simp at h3
      exact .inr ⟨rfl, h3.symm⟩
  have hcell : ∀ {cv : Value}, VR FM β v cv → VR FM β1 (.sl H.length 0 0 0) cv := by
    intro cv h0
    have hb : β1 H.length 0 = some none := by simp [β1]
    cases h0 with
    | nils => exact .sl0 hb fun L h => by cases h
    | e0 => exact .sl0 hb fun L h => by cases h
    | _ => cases en
  have hR : RelH FM β1 (H ++ [blk]) w := by
    have hmp : MapsOk β1 (H ++ [blk]) w := hH.mp.keep hβ (fun i vb sh es h => by
      rcases get h with ⟨_, h⟩ | ⟨_, rfl⟩
      · exact h
      · cases eb) fun _ _ _ h => h
    refine ⟨?_, ?_, ?_, hH.fm, ?_, hH.gk, hmp⟩
    · intro i bl g' m rw1 h1 h2
      rcases get h1 with ⟨hi, q1⟩ | ⟨rfl, rfl⟩
      · obtain ⟨lo, p1, p2⟩ := hH.mem i bl g' m rw1 q1 h2
        refine ⟨lo, hβ _ _ _ p1, ?_⟩
        cases lo with
        | none => exact p2
        | some L => exact MemOk.still p2 rfl hβ
      · rw [eb] at h2; cases h2
        exact ⟨none, by simp [β1], rfl⟩
    · intro b1 b2 k1 k2 g1 g2 n1 n2 row1 row2 L1 L2 h1 h2 h3 h4 h5 h6 h7
      have q3 := some1 h3
      have q6 := some1 h6
      rcases get h1 with ⟨_, x1⟩ | ⟨rfl, rfl⟩
      · rcases get h4 with ⟨_, x1'⟩ | ⟨rfl, rfl⟩
        · exact hH.inj b1 b2 k1 k2 g1 g2 n1 n2 row1 row2 L1 L2 x1 h2 q3 x1' h5 q6 h7
        · rw [hnone] at q6; cases q6
      · rw [hnone] at q3; cases q3
    · intro i bl g' m rw1 L h1 h2 h3
      have q3 := some1 h3
      rcases get h1 with ⟨_, x1⟩ | ⟨rfl, rfl⟩
      · exact hH.wid i bl g' m rw1 L x1 h2 q3
      · rw [hnone] at q3; cases q3
    · intro i g' lo hi
      simp only [β1] at hi
      split at hi
      · rename_i h1
        obtain ⟨rfl, rfl⟩ := h1
        exact ⟨by simp, fun _ _ _ _ _ _ => Nat.zero_le _⟩
      · obtain ⟨q1, q2⟩ := hH.dom i g' lo hi
        refine ⟨by simp; omega, fun bl g2 m rw1 h1 h2 => ?_⟩
        rcases get h1 with ⟨_, x1⟩ | ⟨rfl, rfl⟩
        · exact q2 bl g2 m rw1 x1 h2
        · omega
  have hT1 : RelT FM β1 T1 a := by
    intro e u he
    rw [getM_putM e1] at he
    split at he
    · rename_i hde
      subst hde
      cases he
      exact hcell (hT _ _ et)
    · exact (hT e u he).mono (fun _ _ _ h => h) hβ
  obtain ⟨v', w', fr, av, FM', β', H', h1, h2, h3, h4, h5⟩ := h FM β1 bf cs a w a1 a2 a3 a4 hT1 hR (by simp; omega)
  have himg : ∀ cb, cb < w.heap.size → Img β1 (H ++ [blk]) cb → Img β H cb := by
    intro cb _ hi
    obtain ⟨i, bl, g', m, rw1, L, q1, q2, q3, q4⟩ := hi
    have q3 := some1 q3
    rcases get q1 with ⟨_, x1⟩ | ⟨rfl, rfl⟩
    · exact ⟨i, bl, g', m, rw1, L, x1, q2, q3, q4⟩
    · rw [hnone] at q3; cases q3
  have hx : ExtB n0 FM β H w FM β1 (H ++ [blk]) w := ⟨fun _ _ _ h => h, fun b g lo _ e => hβ b g lo e, Nat.le_refl _, himg, fun _ _ _ => rfl, fun _ _ _ h => .inl h, by simp; omega, rfl, rfl, rfl⟩
  exact ⟨v', w', fr, av, FM', β', H', h1, h2, h3, hx.trans h4, h5⟩

end Pf
/- TermNames: the names of a term, a text put into a list -/
namespace Pf
open Go Go.Proofs
/-- The names that stand in a term, one by one. -/
def nmsT (l : List Nd) : List Tx := (l.filter fun x => decide (x.1 = 2 ∨ x.1 = 13)).map fun x => x.2.2
theorem nmsT_len (l : List Nd) : (nmsT l).length ≤ l.length := by unfold nmsT; rw [List.length_map]; exact List.length_filter_le _ _
theorem nmsT_snoc (l : List Nd) (i : Nat) (h : i < l.length) : nmsT (l.take (i + 1)) = nmsT (l.take i) ++ if (l.getD i (0, 0, [])).1 = 2 ∨ (l.getD i (0, 0, [])).1 = 13 then [(l.getD i (0, 0, [])).2.2] else [] := by
  have e : l.take (i + 1) = l.take i ++ [l.getD i (0, 0, [])] := by
    rw [List.take_add_one]
    simp [List.getD_eq_getElem?_getD, h]
  unfold nmsT
  rw [e, List.filter_append, List.map_append]
  congr 1
  by_cases hc : (l.getD i (0, 0, [])).1 = 2 ∨ (l.getD i (0, 0, [])).1 = 13
  · rw [if_pos hc, List.filter_cons_of_pos (by simpa using hc)]; rfl
  · rw [if_neg hc, List.filter_cons_of_neg (by simpa using hc)]; rfl
/-- The state of the loop that gathers names. -/
def nmI (l : List Nd) (i m : Nat) (S : Nat → Tx) : Prop := i ≤ l.length ∧ m = (nmsT (l.take i)).length ∧ ∀ j, j < m → S j = (nmsT (l.take i)).getD j []
theorem names_ok (l : List Nd) (hl : l.length ≤ 1048576) : AFun Tryz.prog 47 [termV l] [] fun u H => ∃ g, u = .sl 1 g 0 (intoAll (nmsT l)).length ∧ H = [.dead, .tab g (intoAll (nmsT l)).length (tbRow (intoAll (nmsT l)))] := by
  refine afun_of Tryz.func47 Tryz.call47 rfl Tryz.ntmps47 rfl ?_
  have W : Walk Tryz.prog TT 47 _ := Walk.of TT_ok Tryz.func47 Tryz.results47
  refine atl W rfl ?_
  refine go_nilT 3 (.tab 0 0 fun _ => [.str []]) rfl rfl rfl rfl rfl ?_
  refine lp W 0 (σ := Nat × Nat × Nat × (Nat → Tx)) (fun s => [(0, termV l), (1, .ptr 0 0 0 0), (3, .sl 1 s.2.1 0 s.2.2.1), (7, .fz l.length (nodeR l)), (8, .int .i64 l.length), (9, .int .i64 s.1)]) (fun s => [.lst 0 [[.fz l.length (nodeR l)]], .tab s.2.1 s.2.2.1 fun j => [.str (s.2.2.2 j)]]) (fun s => l.length - s.1) (fun s => nmI l s.1 s.2.2.1 s.2.2.2) (0, 0, 0, fun _ => []) [0, 1, 3, 7, 8, 9] rfl rfl rfl ⟨Nat.zero_le _, rfl, fun j hj => absurd hj (Nat.not_lt_zero j)⟩ ?_
  rintro ⟨i, g, m, S⟩ ⟨hi, hm, hS⟩ ih
  dsimp only at hi hm hS ih ⊢
  refine sp W 0 rfl rfl rfl (fun h1 => ?_) (fun h1 => ?_)
  · have h1 : i < l.length := by omega
    have hs := nmsT_snoc l i h1
    have hml : m ≤ i := by have := nmsT_len (l.take i); rw [List.length_take] at this; omega
    have iN : ((i : Nat) : Int).toNat = i := Int.toNat_natCast i
    have e0 : addN 0 m = m := by cases m <;> rfl
    have fin : (l.getD i (0, 0, [])).1 = 2 ∨ (l.getD i (0, 0, [])).1 = 13 → nmI l (i + 1) (m + 1) fun j => if j < addN 0 m then S j else (l.getD ((i : Nat) : Int).toNat (0, 0, [])).2.2 := fun hc => by
      rw [if_pos hc] at hs
      refine ⟨h1, by rw [hs, List.length_append, ← hm]; rfl, fun j hj => ?_⟩
      dsimp only
      rw [hs, e0, iN]
      by_cases hjm : j < m
      · rw [if_pos hjm, hS j hjm]
        simp [List.getD_eq_getElem?_getD, List.getElem?_append_left (show j < (nmsT (l.take i)).length by omega)]
      · rw [if_neg hjm, show j = (nmsT (l.take i)).length by omega]
        simp [List.getD_eq_getElem?_getD]
    refine sp W 0 rfl rfl rfl (fun h2 => ?_) (fun h2 => ?_)
    · refine bd W 0 2 [0, 1, 3, 7, 8, 9] rfl rfl rfl rfl rfl (ih (i + 1, g + 1, m + 1, fun j => if j < addN 0 m then S j else (l.getD ((i : Nat) : Int).toNat (0, 0, [])).2.2) (fin (.inl h2)) (by dsimp only; omega))
    refine sp W 0 rfl rfl rfl (fun h3 => ?_) (fun h3 => ?_)
    · refine bd W 0 2 [0, 1, 3, 7, 8, 9] rfl rfl rfl rfl rfl (ih (i + 1, g + 1, m + 1, fun j => if j < addN 0 m then S j else (l.getD ((i : Nat) : Int).toNat (0, 0, [])).2.2) (fin (.inr h3)) (by dsimp only; omega))
    · have hc : ¬((l.getD i (0, 0, [])).1 = 2 ∨ (l.getD i (0, 0, [])).1 = 13) := fun h => h.elim h2 h3
      rw [if_neg hc, List.append_nil] at hs
      refine bd W 0 2 [0, 1, 3, 7, 8, 9] rfl rfl rfl rfl rfl (ih (i + 1, g, m, S) ⟨h1, by dsimp only; rw [hs]; exact hm, by dsimp only; rw [hs]; exact hS⟩ (by dsimp only; omega))
  · have e : i = l.length := by omega
    subst e
    rw [List.take_length] at hm hS
    subst hm
    have hnl := nmsT_len l
    have hil := intoAll_len (nmsT l)
    refine go_tab 1 (nmsT l).length (tbRow (nmsT l)) rfl rfl rfl (Nat.le_refl _) (fun j hj => by unfold tbRow; rw [hS j hj]) (.inl rfl) ?_
    refine go_callS W 0 300 [1] rfl (by first | exact True.intro | (simp only [AllC, AllP, addN, Int.toNat_natCast, true_and, and_true, Option.getD, List.length_set, wrapU, pw1, pw7, pw8, pw16, pw23, pw32, pw52, Holds] <;> first | omega | ((repeat' apply And.intro) <;> first | omega | (intros; rfl))) | (simp [AllC, AllP, addN, cloL, clo, mrgL, mrg, wrapU, Holds] <;> omega)) (sort_ok g (nmsT l).length (nmsT l) rfl (by omega)) rfl rfl ⟨fun _ _ => rfl, trivial⟩ ⟨rfl, trivial⟩ rfl ?_
    rintro _ _ ⟨rfl, rfl⟩
    refine ⟨_, _, rfl, rfl, ?_⟩
    refine go_callS W 0 300 [1] rfl (by first | exact True.intro | (simp only [AllC, AllP, addN, Int.toNat_natCast, true_and, and_true, Option.getD, List.length_set, wrapU, pw1, pw7, pw8, pw16, pw23, pw32, pw52, Holds] <;> first | omega | ((repeat' apply And.intro) <;> first | omega | (intros; rfl))) | (simp [AllC, AllP, addN, cloL, clo, mrgL, mrg, wrapU, Holds] <;> omega)) (compact_srt g (nmsT l).length (nmsT l) rfl (by omega)) rfl rfl ⟨fun _ _ => rfl, trivial⟩ ⟨rfl, trivial⟩ rfl ?_
    rintro _ _ ⟨rfl, X, rfl, hr⟩
    refine ⟨_, _, rfl, rfl, ?_⟩
    refine go_tab 1 (intoAll (nmsT l)).length (tbRow (intoAll (nmsT l))) rfl rfl rfl hil (fun i hi => hr i hi) (.inr ⟨30, 0, _, rfl, Nat.zero_le _⟩) ?_
    refine go_callS W 0 300 [1] rfl (by first | exact True.intro | (simp only [AllC, AllP, addN, Int.toNat_natCast, true_and, and_true, Option.getD, List.length_set, wrapU, pw1, pw7, pw8, pw16, pw23, pw32, pw52, Holds] <;> first | omega | ((repeat' apply And.intro) <;> first | omega | (intros; rfl))) | (simp [AllC, AllP, addN, cloL, clo, mrgL, mrg, wrapU, Holds] <;> omega)) (clip_ok g (intoAll (nmsT l)).length (tbRow (intoAll (nmsT l))) (by omega)) rfl rfl ⟨fun _ _ => rfl, trivial⟩ ⟨rfl, trivial⟩ rfl ?_
    rintro _ _ ⟨rfl, rfl⟩
    refine ⟨_, _, rfl, rfl, ?_⟩
    refine go_dead 0 rfl ?_
    refine rg W 0 rfl (⟨g, rfl, rfl⟩)
/-- The state of the loop that puts a text into a list. -/
def intoI (s : Tx) (L : List Tx) (i m : Nat) (b : Bool) (S : Nat → Tx) : Prop := i ≤ L.length ∧ (b = false → m = i) ∧ m ≤ i + 1 ∧ ∃ pre : List Tx, pre.length = m ∧ (∀ j, j < m → S j = pre.getD j []) ∧ pre ++ (match b with | true => L.drop i | false => into s (L.drop i)) = into s L
theorem intoI_end {s : Tx} {L : List Tx} {i m m' : Nat} {b : Bool} {S S' : Nat → Tx} (h : intoI s L i m b S) (hi : i = L.length) (hm : m' = if b then m else m + 1) (hS : ∀ j, j < m → S' j = S j) (hS2 : b = false → S' m = s) :
    m' = (into s L).length ∧ ∀ j, j < m' → S' j = (into s L).getD j [] := by
  obtain ⟨h1, h2, h3, pre, h4, h5, h6⟩ := h
  subst hi
  rw [List.drop_length] at h6
  cases b
  · simp only [Bool.false_eq_true, if_false] at hm
    have h6 : pre ++ [s] = into s L := h6
    refine ⟨by rw [← h6, List.length_append, h4]; exact hm, fun j hj => ?_⟩
    rw [← h6]
    rcases Nat.lt_or_ge j m with hj2 | hj2
    · rw [hS j hj2, h5 j hj2]
      simp [List.getD_eq_getElem?_getD, List.getElem?_append_left (show j < pre.length by omega)]
    · rw [show j = m by omega, hS2 rfl, ← h4]
      simp [List.getD_eq_getElem?_getD]
  · simp only [if_true] at hm
    rw [List.append_nil] at h6
    subst hm
    refine ⟨by rw [← h6, h4], fun j hj => ?_⟩
    rw [hS j hj, h5 j hj, h6]
/-- One more text of the list (and, ahead of it, the text that is put in). -/
theorem intoI_one {s : Tx} {L : List Tx} {i m : Nat} {b b' : Bool} {S S' : Nat → Tx} (h : intoI s L i m b S) (hi : i < L.length) (hS : ∀ j, j < m → S' j = S j) (hS2 : S' m = L.getD i [])
    (hb : b = true ∧ b' = true ∨ b = false ∧ b' = false ∧ Op.bytesLess (L.getD i []) s = true ∨ b = false ∧ b' = true ∧ ¬ Op.bytesLess (L.getD i []) s = true ∧ L.getD i [] = s) : intoI s L (i + 1) (m + 1) b' S' := by
  obtain ⟨h1, h2, h3, pre, h4, h5, h6⟩ := h
  have e : L.drop i = L.getD i [] :: L.drop (i + 1) := by
    rw [List.drop_eq_getElem_cons hi]
    simp [List.getD_eq_getElem?_getD, hi]
  refine ⟨hi, fun hb' => ?_, ?_, pre ++ [L.getD i []], by simp [h4], fun j hj => ?_, ?_⟩
  · rcases hb with ⟨_, rfl⟩ | ⟨h, _⟩ | ⟨_, rfl, _⟩
    · cases hb'
    · rw [h2 h]
    · cases hb'
  · rcases hb with ⟨rfl, rfl⟩ | ⟨h, _⟩ | ⟨h, _⟩
    · omega
    · rw [h2 h]; omega
    · rw [h2 h]; omega
  · rcases Nat.lt_or_ge j m with hj2 | hj2
    · rw [hS j hj2, h5 j hj2]
      simp [List.getD_eq_getElem?_getD, List.getElem?_append_left (show j < pre.length by omega)]
    · rw [show j = m by omega, hS2, ← h4]
      simp [List.getD_eq_getElem?_getD]
  · rw [← h6, List.append_assoc]
    congr 1
    rcases hb with ⟨rfl, rfl⟩ | ⟨rfl, rfl, h⟩ | ⟨rfl, rfl, h, h'⟩
    · rw [e]; rfl
    · simp only [e, into]; rw [if_pos h]; rfl
    · simp only [e, into]; rw [if_neg h, if_pos h']; rfl
theorem intoI_two {s : Tx} {L : List Tx} {i m : Nat} {S S' : Nat → Tx} (h : intoI s L i m false S) (hi : i < L.length) (hS : ∀ j, j < m → S' j = S j) (hS2 : S' m = s) (hS3 : S' (m + 1) = L.getD i [])
    (hb : ¬ Op.bytesLess (L.getD i []) s = true) (hn : ¬ L.getD i [] = s) : intoI s L (i + 1) (m + 1 + 1) true S' := by
  obtain ⟨h1, h2, h3, pre, h4, h5, h6⟩ := h
  have e : L.drop i = L.getD i [] :: L.drop (i + 1) := by
    rw [List.drop_eq_getElem_cons hi]
    simp [List.getD_eq_getElem?_getD, hi]
  have hm := h2 rfl
  refine ⟨hi, fun hb' => (by cases hb'), by omega, pre ++ [s, L.getD i []], by simp [h4], fun j hj => ?_, ?_⟩
  · rcases Nat.lt_or_ge j m with hj2 | hj2
    · rw [hS j hj2, h5 j hj2]
      simp [List.getD_eq_getElem?_getD, List.getElem?_append_left (show j < pre.length by omega)]
    · rcases (show j = m ∨ j = m + 1 by omega) with rfl | rfl
      · rw [hS2, ← h4]
        simp [List.getD_eq_getElem?_getD]
      · rw [hS3, ← h4]
        simp [List.getD_eq_getElem?_getD]
  · rw [← h6, List.append_assoc]
    congr 1
    simp only [e, into]
    rw [if_neg hb, if_neg hn]
    rfl
theorem into_ok (s : Tx) (L : List Tx) (hL : L.length ≤ 1048576) : AFunP Tryz.prog 44 [.fz L.length (tbRow L), .str s] (fun u => u = .fz (into s L).length (tbRow (into s L))) := by
  refine afun_of Tryz.func44 Tryz.call44 rfl Tryz.ntmps44 rfl ?_
  have W : Walk Tryz.prog TT 44 _ := Walk.of TT_ok Tryz.func44 Tryz.results44
  refine atl W rfl ?_
  refine go_nilT 5 (.tab 0 0 fun _ => [.str []]) rfl rfl rfl rfl rfl ?_
  refine lp W 0 (σ := Nat × Bool × Nat × Nat × (Nat → Tx)) (fun t => [(0, .fz L.length (tbRow L)), (1, .str s), (5, .sl 0 t.2.2.1 0 t.2.2.2.1), (6, .bool t.2.1), (7, .int .i64 t.1)]) (fun t => [.tab t.2.2.1 t.2.2.2.1 fun j => [.str (t.2.2.2.2 j)]]) (fun t => L.length - t.1) (fun t => intoI s L t.1 t.2.2.2.1 t.2.1 t.2.2.2.2) (0, false, 0, 0, fun _ => []) [0, 1, 5, 6, 7] rfl rfl rfl ⟨Nat.zero_le _, fun _ => rfl, Nat.zero_le _, [], rfl, fun j hj => absurd hj (Nat.not_lt_zero j), rfl⟩ ?_
  rintro ⟨i, b, g, m, S⟩ hI ih
  obtain ⟨hi, hb, hm, pre, hp, hS, he⟩ := id hI
  dsimp only at hi hb hm hS he ih hI ⊢
  refine sp W 0 rfl rfl rfl (fun h1 => ?_) (fun h1 => ?_)
  · have h1 : i < L.length := by omega
    cases b
    · have one := fun (b' : Bool) hb => intoI_one (b' := b') (S' := fun j => if j < addN 0 m then S j else L.getD ((i : Nat) : Int).toNat []) hI h1 (fun j hj => if_pos hj) (if_neg (Nat.lt_irrefl m)) hb
      refine sp W 0 rfl rfl rfl (fun h2 => ?_) (fun h2 => ?_)
      · refine sp W 0 rfl rfl rfl (fun h3 => ?_) (fun h3 => ?_)
        · refine bd W 0 1 [0, 1, 5, 6, 7] rfl rfl rfl rfl rfl (ih (i + 1, true, g + 1 + 1, m + 1 + 1, fun j => if j < addN 0 (m + 1) then (if j < addN 0 m then S j else s) else L.getD ((i : Nat) : Int).toNat []) (intoI_two hI h1 (fun j hj => (if_pos (show j < m + 1 by omega)).trans (if_pos hj)) ((if_pos (Nat.lt_succ_self m)).trans (if_neg (Nat.lt_irrefl m))) (if_neg (Nat.lt_irrefl (m + 1))) h2 h3) (by dsimp only; omega))
        · refine bd W 0 1 [0, 1, 5, 6, 7] rfl rfl rfl rfl rfl (ih (i + 1, true, g + 1, m + 1, fun j => if j < addN 0 m then S j else L.getD ((i : Nat) : Int).toNat []) (one true (.inr (.inr ⟨rfl, rfl, h2, Classical.not_not.1 h3⟩))) (by dsimp only; omega))
      · refine bd W 0 1 [0, 1, 5, 6, 7] rfl rfl rfl rfl rfl (ih (i + 1, false, g + 1, m + 1, fun j => if j < addN 0 m then S j else L.getD ((i : Nat) : Int).toNat []) (one false (.inr (.inl ⟨rfl, rfl, Classical.not_not.1 h2⟩))) (by dsimp only; omega))
    · refine bd W 0 1 [0, 1, 5, 6, 7] rfl rfl rfl rfl rfl (ih (i + 1, true, g + 1, m + 1, fun j => if j < addN 0 m then S j else L.getD ((i : Nat) : Int).toNat []) (intoI_one hI h1 (fun j hj => if_pos hj) (if_neg (Nat.lt_irrefl m)) (.inl ⟨rfl, rfl⟩)) (by dsimp only; omega))
  · have hil : i = L.length := by omega
    cases b
    · obtain ⟨k1, k2⟩ := intoI_end hI hil rfl (S' := fun j => if j < addN 0 m then S j else s) (fun j hj => if_pos hj) (fun _ => if_neg (Nat.lt_irrefl m))
      refine rp W 0 rfl rfl rfl (.fzn k1 fun j hj => ?_)
      show [AV.str (if j < addN 0 m then S j else s)] = [AV.str ((into s L).getD j [])]
      rw [k2 j hj]
    · obtain ⟨k1, k2⟩ := intoI_end hI hil rfl (S' := S) (fun j hj => rfl) (fun h => by cases h)
      refine rp W 0 rfl rfl rfl (.fzn k1 fun j hj => ?_)
      show [AV.str (S j)] = [AV.str ((into s L).getD j [])]
      rw [k2 j hj]
end Pf
/- A temporary's value said otherwise. -/
namespace Pf
open Go
variable {P : Program} {TT : TypeId → Option TI} {f N n0 : Nat} {k : List Item} {T : Env} {H : AHeap} {R : AV → AHeap → Prop}
/-- The temporary 'd' is said to hold u, which is so wherever it holds v. -/
theorem go_sub (d : Nat) (u : AV) {v : AV} {T1 : Env} (e : getM T d = some v) (hs : Sub v u) (e1 : putM d u T = some T1) (h : AGo P f N n0 k T1 H R) : AGo P f N n0 k T H R :=
  fun FM β b cs a w a1 a2 a3 a4 hT hH hl => h FM β b cs a w a1 a2 a3 a4 (hT.refine e1 (hs _ _ _ (hT _ _ e))) hH hl
end Pf
/- TermNames: both sides and the law -/
namespace Pf
open Go Go.Proofs
open Classical in
/-- The names of a term; none, if it is not ok. -/
noncomputable def nmZ (l : List Nd) : List Tx := if termP l then intoAll (nmsT l) else []
theorem nils_fzt (L : List Tx) (h : L = []) : Sub .nils (.fz L.length (tbRow L)) := by subst h; exact .nils_fz
theorem specTermNames_ok (l : List Nd) (hx : txtOk l) (hl : l.length ≤ 1048576) : AFunP Tryz.prog 15 [termV l] (· = .fz (nmZ l).length (tbRow (nmZ l))) := by
  refine afun_of Tryz.func15 Tryz.call15 rfl Tryz.ntmps15 rfl ?_
  have W : Walk Tryz.prog TT 15 _ := Walk.of TT_ok Tryz.func15 Tryz.results15
  refine ce W 0 rfl rfl (specTermOk_ok l hx hl) rfl ?_
  refine sp W 0 rfl rfl rfl (fun h1 => ?_) (fun h1 => ?_)
  · have e : nmZ l = [] := by unfold nmZ; exact if_neg h1
    refine rp W 0 rfl rfl rfl (nils_fzt _ e)
  have h1 : termP l := Classical.not_not.1 h1
  have e : nmZ l = intoAll (nmsT l) := by unfold nmZ; exact if_pos h1
  refine atl W rfl ?_
  refine go_sub 3 (.fz 0 (tbRow [])) rfl .nils_fz rfl ?_
  refine lp W 0 (σ := Nat × List Tx) (fun s => [(0, termV l), (1, .ptr 0 0 0 0), (3, .fz s.2.length (tbRow s.2)), (4, .int .i64 s.1)]) (fun _ => [.lst 0 [[.fz l.length (nodeR l)]]]) (fun s => l.length - s.1) (fun s => s.1 ≤ l.length ∧ s.2 = intoAll (nmsT (l.take s.1))) (0, []) [0, 1, 3, 4] rfl rfl rfl ⟨Nat.zero_le _, rfl⟩ ?_
  rintro ⟨i, L⟩ ⟨hi, hL⟩ ih
  dsimp only at hi hL ih ⊢
  refine sp W 0 rfl rfl rfl (fun h2 => ?_) (fun h2 => ?_)
  · have h2 : i < l.length := by omega
    have hs := nmsT_snoc l i h2
    have hml : L.length ≤ i := by rw [hL]; have := intoAll_len (nmsT (l.take i)); have := nmsT_len (l.take i); rw [List.length_take] at this; omega
    have ki := into_ok (l.getD i (0, 0, [])).2.2 L (by omega)
    have fin : (l.getD i (0, 0, [])).1 = 2 ∨ (l.getD i (0, 0, [])).1 = 13 → into (l.getD i (0, 0, [])).2.2 L = intoAll (nmsT (l.take (i + 1))) := fun hc => by
      rw [hs, if_pos hc, intoAll_snoc, ← hL]
    refine sp W 0 rfl rfl rfl (fun h3 => ?_) (fun h3 => ?_)
    · refine ce W 0 rfl rfl (ki) rfl ?_
      refine bd W 0 1 [0, 1, 3, 4] rfl rfl rfl rfl rfl (ih (i + 1, into (l.getD i (0, 0, [])).2.2 L) ⟨by dsimp only; omega, fin (.inl h3)⟩ (by dsimp only; omega))
    refine sp W 0 rfl rfl rfl (fun h4 => ?_) (fun h4 => ?_)
    · refine ce W 0 rfl rfl (ki) rfl ?_
      refine bd W 0 1 [0, 1, 3, 4] rfl rfl rfl rfl rfl (ih (i + 1, into (l.getD i (0, 0, [])).2.2 L) ⟨by dsimp only; omega, fin (.inr h4)⟩ (by dsimp only; omega))
    · rw [if_neg (fun h => h.elim h3 h4), List.append_nil] at hs
      refine bd W 0 1 [0, 1, 3, 4] rfl rfl rfl rfl rfl (ih (i + 1, L) ⟨by dsimp only; omega, by dsimp only; rw [hs]; exact hL⟩ (by dsimp only; omega))
  · have hil : i = l.length := by omega
    subst hil
    rw [List.take_length] at hL
    refine rp W 0 rfl rfl rfl (.eq (by rw [e, ← hL]))
theorem implTermNames_ok (l : List Nd) (hx : txtOk l) (hl : l.length ≤ 1048576) (h1 : termP l) : AFun Tryz.prog 17 [termV l] [] (fun u H => ∃ g, u = .sl 2 g 0 (nmZ l).length ∧ H = [.dead, .dead, .tab g (nmZ l).length (tbRow (nmZ l))]) := by
  rw [show nmZ l = intoAll (nmsT l) by unfold nmZ; exact if_pos h1]
  refine afun_of Tryz.func17 Tryz.call17 rfl Tryz.ntmps17 rfl ?_
  have W : Walk Tryz.prog TT 17 _ := Walk.of TT_ok Tryz.func17 Tryz.results17
  refine ce W 0 rfl rfl (implTermOk_ok l hx hl) rfl ?_
  refine sp W 0 rfl rfl rfl (fun h2 => ?_) (fun h2 => ?_)
  · exact absurd h1 h2
  refine cx W 0 rfl rfl (names_ok l hl) (fun u H h => by obtain ⟨g, rfl, rfl⟩ := h; exact ⟨rfl, trivial, fun _ _ => rfl, trivial⟩) ?_
  rintro _ _ ⟨g, rfl, rfl⟩
  refine ⟨_, _, rfl, rfl, ?_⟩
  refine go_dead 0 rfl ?_
  refine rg W 0 rfl (⟨g, rfl, rfl⟩)
theorem implTermNames_no (l : List Nd) (hx : txtOk l) (hl : l.length ≤ 1048576) (h1 : ¬ termP l) : AFunP Tryz.prog 17 [termV l] (· = .nils) := by
  refine afun_of Tryz.func17 Tryz.call17 rfl Tryz.ntmps17 rfl ?_
  have W : Walk Tryz.prog TT 17 _ := Walk.of TT_ok Tryz.func17 Tryz.results17
  refine ce W 0 rfl rfl (implTermOk_ok l hx hl) rfl ?_
  refine sp W 0 rfl rfl rfl (fun h2 => ?_) (fun h2 => ?_)
  · refine rp W 0 rfl rfl rfl (.refl)
  · exact absurd (Classical.not_not.1 h2) h1
theorem nmZ_len (l : List Nd) : (nmZ l).length ≤ l.length := by
  unfold nmZ
  split
  · exact Nat.le_trans (intoAll_len _) (nmsT_len l)
  · exact Nat.zero_le _
theorem markTerm_ok (n k : Nat) (l : List Nd) (hl : l.length = n) (hn : n ≤ 1048576) (h1 : 1 ≤ k) (hk : k ≤ 1048576000) : AFunM Tryz.prog 20 [.agg [.sl 0 0 0 n], .int .i64 k] [.tab 0 n (nodeR l)] fun u bs => u = .int .i64 (k + 3 * n : Nat) ∧ ∃ l' : List Nd, l'.length = n ∧ bs = [.tab 0 n (nodeR l')] := by
  refine afun_of Tryz.func20 Tryz.call20 rfl Tryz.ntmps20 rfl ?_
  have W : Walk Tryz.prog TT 20 _ := Walk.of TT_ok Tryz.func20 Tryz.results20
  refine cmT W 0 [(0, 0)] rfl (markNodeS_ok n k l hl hn h1 hk) ⟨rfl, trivial⟩ rfl rfl ⟨fun _ _ => rfl, trivial⟩ ?_
  rintro _ _ ⟨rfl, l', hl', rfl⟩
  refine ⟨_, _, rfl, rfl, ?_⟩
  refine rmT W 0 [.tab 0 n (nodeR l')] rfl rfl rfl ⟨rfl, trivial⟩ ⟨fun _ _ => rfl, trivial⟩ rfl (.int .i64 (k + 3 * n : Nat)) rfl .refl ⟨rfl, l', hl', rfl⟩
theorem fnTermNames_law (l : List Nd) (hm : l.length ≤ 9223372036854775807) (hx : ∀ i, i < l.length → (l.getD i (0, 0, [])).2.2.length ≤ 9223372036854775807) : AFunP Tryz.prog 4 [termV l] (· = .pr True) := by
  refine afun_of Tryz.func4 Tryz.call4 rfl Tryz.ntmps4 rfl ?_
  have W : Walk Tryz.prog TT 4 _ := Walk.of TT_ok Tryz.func4 Tryz.results4
  refine cq W 0 rfl rfl (szTerm_ok l hm hx) ?_
  rintro _ ⟨n, rfl, hn⟩
  refine ⟨_, rfl, ?_⟩
  refine sp W 0 rfl rfl rfl (fun h1 => ?_) (fun h1 => ?_)
  · refine rp W 0 rfl rfl rfl (.yes trivial)
  obtain ⟨hl, ht⟩ := hn (by omega)
  have k1 := toTerm_ok l hl
  have ks := specTermNames_ok l ht hl
  have ki := implTermNames_ok l ht hl
  have hNl := nmZ_len l
  have hN0 : ¬ termP l → nmZ l = [] := fun h => by unfold nmZ; exact if_neg h
  generalize nmZ l = N at ks ki hNl hN0
  have keq := eqStringS_ok N.length N.length (fun i => N.getD i []) (fun i => N.getD i []) (by omega) (by omega)
  refine ce W 0 rfl rfl (k1) rfl ?_
  refine ce W 0 rfl rfl (ks) rfl ?_
  refine cx W 0 rfl rfl (toTerm_new l hl) (fun u H h => by obtain ⟨rfl, rfl⟩ := h; exact ⟨rfl, rfl, rfl, rfl, fun _ _ => rfl, trivial⟩) ?_
  rintro _ _ ⟨rfl, rfl⟩
  refine ⟨_, _, rfl, rfl, ?_⟩
  refine go_tab 4 l.length (nodeR l) rfl rfl rfl (Nat.le_refl _) (fun _ _ => rfl) (.inl rfl) ?_
  by_cases hp : termP l
  · refine go_callL W 0 300 rfl (by first | exact True.intro | (simp only [AllC, AllP, addN, Int.toNat_natCast, true_and, and_true, Option.getD, List.length_set, wrapU, pw1, pw7, pw8, pw16, pw23, pw32, pw52, Holds] <;> first | omega | ((repeat' apply And.intro) <;> first | omega | (intros; rfl))) | (simp [AllC, AllP, addN, cloL, clo, mrgL, mrg, wrapU, Holds] <;> omega)) rfl ⟨trivial, rfl, by omega, fun _ _ => rfl⟩ rfl (ki hp) (fun u H h => by obtain ⟨g, rfl, rfl⟩ := h; exact ⟨rfl, trivial, trivial, fun _ _ => rfl, trivial⟩) ?_
    rintro _ _ ⟨g, rfl, rfl⟩
    refine ⟨_, _, rfl, rfl, ?_⟩
    refine cb W 0 rfl rfl rfl rfl (keq) rfl ?_
    refine sp W 0 rfl rfl rfl (fun h2 => ?_) (fun h2 => ?_)
    · exact absurd ⟨rfl, fun _ _ => rfl⟩ h2
    refine dre W 0 4 [] [termV l, .pr (l = l)] rfl rfl rfl ⟨k1.at rfl _, (eqTerm_ok l l hl hl).bor rfl ⟨trivial, rfl, by omega, fun _ _ => rfl⟩ rfl (fun _ h => by rw [h]; rfl), trivial⟩ rfl ?_
    refine sp W 0 rfl rfl rfl (fun h3 => ?_) (fun h3 => ?_)
    · exact absurd rfl h3
    refine cmT W 0 [(4, 0)] rfl (markTerm_ok l.length 1 l rfl hl (by omega) (by omega)) ⟨rfl, trivial⟩ rfl rfl ⟨fun _ _ => rfl, trivial⟩ ?_
    rintro _ _ ⟨rfl, l', hl', rfl⟩
    refine ⟨_, _, rfl, rfl, ?_⟩
    refine sp W 0 rfl rfl rfl (fun h4 => ?_) (fun h4 => ?_)
    · exfalso; omega
    refine cb W 0 rfl rfl rfl rfl (keq) rfl ?_
    refine sp W 0 rfl rfl rfl (fun h5 => ?_) (fun h5 => ?_)
    · exact absurd ⟨rfl, fun _ _ => rfl⟩ h5
    refine go_callS W 0 300 [8] rfl (by first | exact True.intro | (simp only [AllC, AllP, addN, Int.toNat_natCast, true_and, and_true, Option.getD, List.length_set, wrapU, pw1, pw7, pw8, pw16, pw23, pw32, pw52, Holds] <;> first | omega | ((repeat' apply And.intro) <;> first | omega | (intros; rfl))) | (simp [AllC, AllP, addN, cloL, clo, mrgL, mrg, wrapU, Holds] <;> omega)) (markStringS_ok g N.length 1 N.length (fun i => N.getD i []) (Nat.le_refl _) (by omega) (by omega) (by omega)) rfl rfl ⟨fun _ _ => rfl, trivial⟩ ⟨rfl, trivial⟩ rfl ?_
    rintro _ _ ⟨rfl, r', rfl, hr'⟩
    refine ⟨_, _, rfl, rfl, ?_⟩
    have kh := heldStringS_ok N.length 1 r' (by omega) (by omega) (by omega) hr'
    refine cb W 0 rfl rfl rfl rfl (kh) rfl ?_
    refine sp W 0 rfl rfl rfl (fun h6 => ?_) (fun h6 => ?_)
    · exfalso; omega
    refine sp W 0 rfl rfl rfl (fun h7 => ?_) (fun h7 => ?_)
    · exact absurd rfl h7
    refine ce W 0 rfl rfl (k1) rfl ?_
    refine go_callL W 0 300 rfl (by first | exact True.intro | (simp only [AllC, AllP, addN, Int.toNat_natCast, true_and, and_true, Option.getD, List.length_set, wrapU, pw1, pw7, pw8, pw16, pw23, pw32, pw52, Holds] <;> first | omega | ((repeat' apply And.intro) <;> first | omega | (intros; rfl))) | (simp [AllC, AllP, addN, cloL, clo, mrgL, mrg, wrapU, Holds] <;> omega)) rfl trivial rfl (ki hp) (fun u H h => by obtain ⟨g, rfl, rfl⟩ := h; exact ⟨rfl, trivial, trivial, fun _ _ => rfl, trivial⟩) ?_
    rintro _ _ ⟨g2, rfl, rfl⟩
    refine ⟨_, _, rfl, rfl, ?_⟩
    refine cb W 0 rfl rfl rfl rfl (keq) rfl ?_
    refine sp W 0 rfl rfl rfl (fun h8 => ?_) (fun h8 => ?_)
    · exact absurd ⟨rfl, fun _ _ => rfl⟩ h8
    refine cb W 0 rfl rfl rfl rfl (kh) rfl ?_
    refine sp W 0 rfl rfl rfl (fun h9 => ?_) (fun h9 => ?_)
    · exfalso; omega
    refine sp W 0 rfl rfl rfl (fun h10 => ?_) (fun h10 => ?_)
    · exact absurd rfl h10
    refine rp W 0 rfl rfl rfl (.yes trivial)
  · obtain rfl := hN0 hp
    refine cb W 0 rfl rfl rfl rfl (implTermNames_no l ht hl hp) rfl ?_
    refine go_nilT 22 (.tab 0 0 (tbRow [])) rfl rfl rfl rfl rfl ?_
    refine cb W 0 rfl rfl rfl rfl (keq) rfl ?_
    refine sp W 0 rfl rfl rfl (fun h2 => ?_) (fun h2 => ?_)
    · exact absurd ⟨rfl, fun _ _ => rfl⟩ h2
    refine dre W 0 4 [] [termV l, .pr (l = l)] rfl rfl rfl ⟨k1.at rfl _, (eqTerm_ok l l hl hl).bor rfl ⟨trivial, rfl, by omega, fun _ _ => rfl⟩ rfl (fun _ h => by rw [h]; rfl), trivial⟩ rfl ?_
    refine sp W 0 rfl rfl rfl (fun h3 => ?_) (fun h3 => ?_)
    · exact absurd rfl h3
    refine cmT W 0 [(4, 0)] rfl (markTerm_ok l.length 1 l rfl hl (by omega) (by omega)) ⟨rfl, trivial⟩ rfl rfl ⟨fun _ _ => rfl, trivial⟩ ?_
    rintro _ _ ⟨rfl, l', hl', rfl⟩
    refine ⟨_, _, rfl, rfl, ?_⟩
    refine sp W 0 rfl rfl rfl (fun h4 => ?_) (fun h4 => ?_)
    · exfalso; omega
    refine cb W 0 rfl rfl rfl rfl (keq) rfl ?_
    refine sp W 0 rfl rfl rfl (fun h5 => ?_) (fun h5 => ?_)
    · exact absurd ⟨rfl, fun _ _ => rfl⟩ h5
    refine go_callS W 0 300 [6] rfl (by first | exact True.intro | (simp only [AllC, AllP, addN, Int.toNat_natCast, true_and, and_true, Option.getD, List.length_set, wrapU, pw1, pw7, pw8, pw16, pw23, pw32, pw52, Holds] <;> first | omega | ((repeat' apply And.intro) <;> first | omega | (intros; rfl))) | (simp [AllC, AllP, addN, cloL, clo, mrgL, mrg, wrapU, Holds] <;> omega)) (markStringS_ok 0 ([] : List Tx).length 1 ([] : List Tx).length (fun i => ([] : List Tx).getD i []) (Nat.le_refl _) (by omega) (by omega) (by omega)) rfl rfl ⟨fun _ _ => rfl, trivial⟩ ⟨rfl, trivial⟩ rfl ?_
    rintro _ _ ⟨rfl, r', rfl, hr'⟩
    refine ⟨_, _, rfl, rfl, ?_⟩
    have kh := heldStringS_ok ([] : List Tx).length 1 r' (by omega) (by omega) (by omega) hr'
    refine cb W 0 rfl rfl rfl rfl (kh) rfl ?_
    refine sp W 0 rfl rfl rfl (fun h6 => ?_) (fun h6 => ?_)
    · exfalso; omega
    refine sp W 0 rfl rfl rfl (fun h7 => ?_) (fun h7 => ?_)
    · exact absurd rfl h7
    refine ce W 0 rfl rfl (k1) rfl ?_
    refine cb W 0 rfl rfl rfl rfl (implTermNames_no l ht hl hp) rfl ?_
    refine go_nilT 56 (.tab 0 0 (tbRow [])) rfl rfl rfl rfl rfl ?_
    refine cb W 0 rfl rfl rfl rfl (keq) rfl ?_
    refine sp W 0 rfl rfl rfl (fun h8 => ?_) (fun h8 => ?_)
    · exact absurd ⟨rfl, fun _ _ => rfl⟩ h8
    refine cb W 0 rfl rfl rfl rfl (kh) rfl ?_
    refine sp W 0 rfl rfl rfl (fun h9 => ?_) (fun h9 => ?_)
    · exfalso; omega
    refine sp W 0 rfl rfl rfl (fun h10 => ?_) (fun h10 => ?_)
    · exact absurd rfl h10
    refine rp W 0 rfl rfl rfl (.yes trivial)
end Pf
